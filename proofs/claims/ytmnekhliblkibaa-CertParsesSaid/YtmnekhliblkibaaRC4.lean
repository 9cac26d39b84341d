/- The contracts of the document's constraints, used, meant. -/
import Derived.Test.YtmnekhliblkibaaRC3
import Derived.Test.YtmnekhliblkibaaRC1
import Derived.Test.YtmnekhliblkibaaGQ
namespace Go.Proofs.Ytmnekhliblkibaa
open Go.RowKit
set_option maxRecDepth 100000
set_option linter.unusedVariables false
set_option linter.unusedSimpArgs false

/-- A certificate with flags told, and whether they are right. -/
def FlQ (w : World) (C : CV) (o : Option Fl) (e : Ending) (w' : World) : Prop :=
  ∃ (q : Bool) (f : Fl), e = .returned (.tuple #[CV.val {C with fl := f}, .bool q]) ∧ Below w.heap.size w w' ∧ o = if q = true then some f else none
theorem CV.fl_one {C : CV} (h : ∀ v ∈ C.cells.toList, v.oneCell' = true) (f : Fl) : ∀ v ∈ (CV.cells {C with fl := f}).toList, v.oneCell' = true := by
  intro v hv
  have h' : ∀ v, v ∈ [C.raw, C.tbs, C.iss, C.sub, C.ser, C.n, C.sig] → v.oneCell' = true := fun v hv => h v (by
    simp only [List.mem_cons, List.not_mem_nil, or_false] at hv
    unfold CV.cells
    rcases hv with rfl | rfl | rfl | rfl | rfl | rfl | rfl <;> simp)
  exact CV.one (C := {C with fl := f}) (h' _ (by simp)) (h' _ (by simp)) (h' _ (by simp)) (h' _ (by simp)) (h' _ (by simp)) (h' _ (by simp)) (h' _ (by simp)) v hv

/-- While a function that takes a certificate works: the certificate's variable, the result's. -/
def P3 (w W : World) (C : CV) : Prop := Bc W w.heap.size C ∧ Bc W (w.heap.size + 1 + 1) CV.zero ∧ Below w.heap.size w W ∧ w.heap.size + 1 + 1 + 1 ≤ W.heap.size
theorem P3.start (w : World) (C : CV) (cs : Array Value) : P3 w (((w.alloc (.cells C.cells 32)).alloc (.cells cs 50)).alloc (.cells CV.zero.cells 32)) C :=
  ⟨Blk.alloc (Blk.alloc (Blk.new w _ _) _) _, Blk.new' _ _ (by simp), by (repeat (first | exact Below.refl _ _ | assumption | (refine Below.setCell ?_ (by first | omega | (simp; done) | (simp; omega)) _) | (refine Below.alloc ?_ (by first | omega | (simp; done) | (simp; omega)) _) | (refine below_drewN ?_ _) | (refine Below.drew ?_))), by simp⟩
section
variable {w W W' : World} {C : CV}
theorem P3.below (h : P3 w W C) (hb : Below W.heap.size W W') : P3 w W' C :=
  ⟨h.1.below hb h.1.lt, h.2.1.below hb h.2.1.lt, h.2.2.1.trans (hb.mono h.2.2.1.size), Nat.le_trans h.2.2.2 hb.size⟩
theorem P3.ca (h : P3 w W C) (x : Bool) : P3 w (W.setCell ⟨w.heap.size, 20, none⟩ (.bool x)) {C with fl := {C.fl with ca := x}} :=
  ⟨h.1.ca x, Blk.far h.2.1 (by dsimp only; omega) _, h.2.2.1.setCell (by simp) _, by simpa using h.2.2.2⟩
theorem P3.path (h : P3 w W C) (x : Int) : P3 w (W.setCell ⟨w.heap.size, 21, none⟩ (.int .i64 x)) {C with fl := {C.fl with path := x}} :=
  ⟨h.1.path x, Blk.far h.2.1 (by dsimp only; omega) _, h.2.2.1.setCell (by simp) _, by simpa using h.2.2.2⟩
theorem P3.usage (h : P3 w W C) (x : Int) : P3 w (W.setCell ⟨w.heap.size, 22, none⟩ (.int .i64 x)) {C with fl := {C.fl with usage := x}} :=
  ⟨h.1.usage x, Blk.far h.2.1 (by dsimp only; omega) _, h.2.2.1.setCell (by simp) _, by simpa using h.2.2.2⟩
theorem P3.code (h : P3 w W C) (x : Bool) : P3 w (W.setCell ⟨w.heap.size, 23, none⟩ (.bool x)) {C with fl := {C.fl with code := x}} :=
  ⟨h.1.code x, Blk.far h.2.1 (by dsimp only; omega) _, h.2.2.1.setCell (by simp) _, by simpa using h.2.2.2⟩
theorem P3.rows (h : P3 w W C) {x : Nat} (u : Value) : KeepRows (w.heap.size + 1 + 1 + 1) W (W.setCell ⟨w.heap.size, x, none⟩ u) := KeepRows.setCell (by dsimp only; omega) _
theorem P3.ret {wz : World} {fn : Func} (hfn : fn.results = #[.cell 4 32, .tmp 5]) {f : Fl} {o : Option Fl} {q : Bool} {tmps : Array Value} (h : P3 w W {C with fl := f})
    (hg : W.grownBy wz (some (w.heap.size + 1 + 1))) (hB : Bc wz (w.heap.size + 1 + 1) {C with fl := f}) (h4 : tmps.getD 4 undef = .pointer (some ⟨w.heap.size + 1 + 1, 0, none⟩)) (h5 : tmps.getD 5 undef = .bool q) (ho : o = if q = true then some f else none) :
    bodyPost Try.prog fn (FlQ w C o) .ret { tmps := tmps, defers := [] } wz := by
  refine bodyPost_ret (results_cell_tmp hfn _ _ _ _ _ h4 (load_cert hB)) rfl ?_
  rw [h5]
  exact ⟨q, f, rfl, below_grow h.2.2.1 hg (by omega) (by have := h.2.2.2; omega), ho⟩
end

set_option maxHeartbeats 4000000 in
theorem rconstraints_any (C : CV) (hC : ∀ v ∈ C.cells.toList, v.oneCell' = true) (t : UInt8) (A1 A2 : Option Addr) (n1 c1 n2 c2 : Nat) (b r : List UInt8) (w : World) (h1 : Rd w w.heap.size A1 n1 c1 b) (hn : n1 ≤ 1099511627) :
    Calls Try.prog 109 #[C.val, .agg #[.int .u8 (t.toNat : Int), .slice A1 n1 c1, .slice A2 n2 c2]] w (FlQ w C (RC.constraints C.fl (t, b, r))) := by
  have hP0 := P3.start w C #[.int .u8 (t.toNat : Int), .slice A1 n1 c1, .slice A2 n2 c2]
  show Calls _ _ #[.agg C.cells, _] _ _
  have hcl : C.cells.size = 24 := rfl
  go_enter Try.func109, Try.ntmps109
  go_wp2_with fail
  refine (rparts_any t A1 A2 n1 c1 n2 c2 48 b r _ ((((h1.alloc (Nat.le_refl _) _).alloc (by simp) _).alloc (by simp; omega) _).more (by simp; omega)) hn).mono ?_
  rintro e w1 ⟨q, A, n, c, L, rfl, hb1, hE, hnl, hm, ho⟩
  have hP1 := hP0.below hb1
  have H1 := Lib.hid (And.intro hP1 (And.intro (hE.mono (lo' := w.heap.size + 1 + 1 + 1) (by simp) (Nat.le_refl _)) (And.intro hm (And.intro ho hnl.symm))))
  have hs1 : w.heap.size + 1 + 1 + 1 ≤ w1.heap.size := hP1.2.2.2
  clear hP0 hP1 hb1 hE hm ho h1 hnl
  cases q with
  | false =>
    go_wp2_with (first | ((with_reducible refine at_load_cert ?_); refine wpList_load_cert rfl _ rfl (w.heap.size) (C) rfl (H1.out.1.1) ?_) | ((with_reducible refine at_store_cert ?_); refine wpList_store_cert rfl _ _ rfl (w.heap.size + 1 + 1) CV.zero (C) rfl rfl (H1.out.1.2.1) (hC) ?_; intro wz hBz hgz) | fail)
    refine P3.ret rfl H1.out.1 hgz hBz rfl rfl ?_
    unfold RC.constraints; rw [H1.out.2.2.2.1]; rfl
  | true =>
    have hlen : (L.map EI.dat).length = n := by rw [List.length_map]; exact H1.out.2.2.2.2
    have hsp : RC.constraints C.fl (t, b, r) = (Cert.must (decide (n ≤ 2) && (decide (n = 0) || ((L.map EI.dat).getD 0 El.none_).2.2 == [1, 1, 255]))).bind fun _ =>
        if n = 2 then (Cert.number ((L.map EI.dat).getD 1 El.none_)).bind fun n => (RC.value n).bind fun v => (Cert.must (decide (v ≤ 255))).bind fun _ => some {C.fl with ca := true, path := (v : Int)}
        else some {C.fl with ca := decide (0 < n)} := by
      unfold RC.constraints
      rw [H1.out.2.2.2.1]
      simp only [Option.bind_some, if_true, hlen]
    have HS := Lib.hid hsp
    clear hsp hlen
    have k0 : w1.cell? ⟨w.heap.size, 20, none⟩ = some (.bool C.fl.ca) := H1.out.1.1.at_ 20
    have k1 := H1.out.1.1.frozen 20
    have kp : w1.cell? ⟨w.heap.size, 21, none⟩ = some (.int .i64 C.fl.path) := H1.out.1.1.at_ 21
    have kp1 := H1.out.1.1.frozen 21
    by_cases hn2 : n ≤ 2
    · have hn2' : ¬ (2 : Int) < n := by omega
      by_cases h0 : n = 0
      · subst h0
        have HZ := Lib.hid (H1.out.1.ca false)
        go_wp2_with (first | ((with_reducible refine at_load_cert ?_); refine wpList_load_cert rfl _ rfl (w.heap.size) ({C with fl := {C.fl with ca := false}}) rfl (HZ.out.1) ?_) | ((with_reducible refine at_store_cert ?_); refine wpList_store_cert rfl _ _ rfl (w.heap.size + 1 + 1) CV.zero ({C with fl := {C.fl with ca := false}}) rfl rfl (HZ.out.2.1) (CV.fl_one hC _) ?_; intro wz hBz hgz) | fail)
        refine P3.ret rfl HZ.out hgz hBz rfl rfl ?_
        rw [HS.out]; rfl
      · have h0' : (0 : Int) < n := by omega
        have h0n : 0 < n := by omega
        obtain ⟨g, rfl, hg, hg2⟩ := H1.out.2.1.spot_ h0n
        obtain ⟨t0, A3, n3, c3, b0, A4, n4, c4, r0, hx0, p0, p1, p2, R0, R1, _⟩ := H1.out.2.1.el rfl (Below.refl w1.heap.size w1) (Nat.le_refl _) 0 0 h0n rfl
        have hstr := run_string R1 9 Try.underlying9
        obtain ⟨y0, hy0⟩ : ∃ y0, (r0 == [1, 1, 255]) = y0 := ⟨_, rfl⟩
        have hx0' : RC.constraints C.fl (t, b, r) = (Cert.must y0).bind fun _ =>
            if n = 2 then (Cert.number ((L.map EI.dat).getD 1 El.none_)).bind fun n => (RC.value n).bind fun v => (Cert.must (decide (v ≤ 255))).bind fun _ => some {C.fl with ca := true, path := (v : Int)}
            else some {C.fl with ca := true} := by
          rw [HS.out, hx0]
          simp only [hn2, h0, hy0, decide_true, decide_false, Bool.true_and, Bool.false_or, h0n]
        have H2 := Lib.hid hx0'
        clear hx0 hx0' R0 R1 HS
        have HG := Lib.hid (And.intro hg hg2)
        clear hg hg2
        cases y0 with
        | false =>
          go_wp2_with (first | ((with_reducible refine at_load_cert ?_); refine wpList_load_cert rfl _ rfl (w.heap.size) (C) rfl (H1.out.1.1) ?_) | ((with_reducible refine at_store_cert ?_); refine wpList_store_cert rfl _ _ rfl (w.heap.size + 1 + 1) CV.zero (C) rfl rfl (H1.out.1.2.1) (hC) ?_; intro wz hBz hgz) | fail)
          refine P3.ret rfl H1.out.1 hgz hBz rfl rfl ?_
          rw [H2.out]; rfl
        | true =>
          have HZ := Lib.hid (H1.out.1.ca true)
          by_cases h2 : n = 2
          · subst h2
            obtain ⟨t1, A6, n6, c6, b1, A7, n7, c7, r1, hx1, q0, q1, q2, Y0, Y1, _⟩ := (H1.out.2.1.keepRows (H1.out.1.rows (x := 20) (.bool true))).el rfl (Below.refl (w1.setCell ⟨w.heap.size, 20, none⟩ (.bool true)).heap.size _) (by simp) 1 3 (by omega) rfl
            have hb1 : b1.length ≤ n1 := by
              have hlt : 1 < L.length := by have := H1.out.2.2.2.2; omega
              have := H1.out.2.2.1 ((L.map EI.dat).getD 1 El.none_) (by
                rw [List.getD_eq_getElem?_getD, List.getElem?_eq_getElem (by simpa using hlt)]
                exact List.getElem_mem _)
              rw [hx1] at this
              exact this.1
            have hn6 : n6 ≤ 1099511627776 := by have := Y0.len; omega
            have H4 := Lib.hid (And.intro hx1 (Y0.more (B' := (w1.setCell ⟨w.heap.size, 20, none⟩ (.bool true)).heap.size) (by simp)))
            have hsp : RC.constraints C.fl (t, b, r) = (Cert.number (t1, b1, r1)).bind fun n => (RC.value n).bind fun v => (Cert.must (decide (v ≤ 255))).bind fun _ => some {C.fl with ca := true, path := (v : Int)} := by
              rw [H2.out, if_pos rfl, hx1]; rfl
            have H5 := Lib.hid hsp
            clear hsp hx1 Y0 Y1 hb1
            go_wp2_with fail
            refine (rnumber_any t1 A6 A7 n6 c6 n7 c7 b1 r1 _ H4.out.2 hn6).mono ?_
            rintro e w3 ⟨z1, A8, n8, c8, ys, rfl, hb3, hO3, hl3, ho3⟩
            have HP3 := Lib.hid (HZ.out.below hb3)
            have H6 := Lib.hid (And.intro (Rd.of_own hO3) ho3)
            clear hb3 hO3 hl3 ho3 q0 q1 q2 k0 k1 kp kp1 p0 p1 p2 hstr
            go_wp2_with fail
            refine (rvalue_any A8 n8 c8 ys _ H6.out.1).mono ?_
            rintro e w' ⟨rfl, z2, v, rfl, hv⟩
            have H7 := Lib.hid hv
            clear hv
            have hfail : (z1 && z2) = false → RC.constraints C.fl (t, b, r) = none := by
              intro hz
              rw [H5.out, H6.out.2]
              cases z1 with
              | false => rfl
              | true =>
                cases z2 with
                | false => simp only [if_true, Option.bind_some]; rw [H7.out]; rfl
                | true => cases hz
            have hfine : z1 = true → z2 = true → RC.constraints C.fl (t, b, r) = (Cert.must (decide (v ≤ 255))).bind fun _ => some {C.fl with ca := true, path := (v : Int)} := by
              rintro rfl rfl
              rw [H5.out, H6.out.2]
              simp only [if_true, Option.bind_some]
              rw [H7.out]; rfl
            have HF := Lib.hid (And.intro hfail hfine)
            clear hfail hfine
            have kp : w'.cell? ⟨w.heap.size, 21, none⟩ = some (.int .i64 C.fl.path) := HP3.out.1.at_ 21
            have kp1 := HP3.out.1.frozen 21
            cases z1 with
            | false =>
              go_wp2_with (first | ((with_reducible refine at_load_cert ?_); refine wpList_load_cert rfl _ rfl (w.heap.size) ({C with fl := {C.fl with ca := true}}) rfl (HP3.out.1) ?_) | ((with_reducible refine at_store_cert ?_); refine wpList_store_cert rfl _ _ rfl (w.heap.size + 1 + 1) CV.zero ({C with fl := {C.fl with ca := true}}) rfl rfl (HP3.out.2.1) (CV.fl_one hC _) ?_; intro wz hBz hgz) | fail)
              refine P3.ret rfl HP3.out hgz hBz rfl rfl ?_
              rw [HF.out.1 rfl]; rfl
            | true =>
              cases z2 with
              | false =>
                go_wp2_with (first | ((with_reducible refine at_load_cert ?_); refine wpList_load_cert rfl _ rfl (w.heap.size) ({C with fl := {C.fl with ca := true}}) rfl (HP3.out.1) ?_) | ((with_reducible refine at_store_cert ?_); refine wpList_store_cert rfl _ _ rfl (w.heap.size + 1 + 1) CV.zero ({C with fl := {C.fl with ca := true}}) rfl rfl (HP3.out.2.1) (CV.fl_one hC _) ?_; intro wz hBz hgz) | fail)
                refine P3.ret rfl HP3.out hgz hBz rfl rfl ?_
                rw [HF.out.1 rfl]; rfl
              | true =>
                by_cases hv : (255 : Int) < v
                · go_wp2_with (first | ((with_reducible refine at_load_cert ?_); refine wpList_load_cert rfl _ rfl (w.heap.size) ({C with fl := {C.fl with ca := true}}) rfl (HP3.out.1) ?_) | ((with_reducible refine at_store_cert ?_); refine wpList_store_cert rfl _ _ rfl (w.heap.size + 1 + 1) CV.zero ({C with fl := {C.fl with ca := true}}) rfl rfl (HP3.out.2.1) (CV.fl_one hC _) ?_; intro wz hBz hgz) | fail)
                  refine P3.ret rfl HP3.out hgz hBz rfl rfl ?_
                  rw [HF.out.2 (by first | rfl | trivial) (by first | rfl | trivial), must_f (by simp; omega)]; rfl
                · have hvw : IntKind.i64.wrap (v : Int) = (v : Int) := IntWalk.i64_in _ (by omega)
                  have HZ2 := Lib.hid (HP3.out.path (v : Int))
                  go_wp2_with (first | ((with_reducible refine at_load_cert ?_); refine wpList_load_cert rfl _ rfl (w.heap.size) ({C with fl := {C.fl with ca := true, path := (v : Int)}}) rfl (HZ2.out.1) ?_) | ((with_reducible refine at_store_cert ?_); refine wpList_store_cert rfl _ _ rfl (w.heap.size + 1 + 1) CV.zero ({C with fl := {C.fl with ca := true, path := (v : Int)}}) rfl rfl (HZ2.out.2.1) (CV.fl_one hC _) ?_; intro wz hBz hgz) | fail)
                  refine P3.ret rfl HZ2.out hgz hBz rfl rfl ?_
                  rw [HF.out.2 (by first | rfl | trivial) (by first | rfl | trivial), must_t (by simp; omega)]; rfl
          · have h2' : ((n : Int) == 2) = false := by simp; omega
            have H3 := Lib.hid (H2.out.trans (by rw [if_neg h2]))
            clear h2
            go_wp2_with (first | ((with_reducible refine at_load_cert ?_); refine wpList_load_cert rfl _ rfl (w.heap.size) ({C with fl := {C.fl with ca := true}}) rfl (HZ.out.1) ?_) | ((with_reducible refine at_store_cert ?_); refine wpList_store_cert rfl _ _ rfl (w.heap.size + 1 + 1) CV.zero ({C with fl := {C.fl with ca := true}}) rfl rfl (HZ.out.2.1) (CV.fl_one hC _) ?_; intro wz hBz hgz) | fail)
            refine P3.ret rfl HZ.out hgz hBz rfl rfl ?_
            exact H3.out
    · have hn2' : (2 : Int) < n := by omega
      have hno : RC.constraints C.fl (t, b, r) = none := by rw [HS.out, must_f (by simp [hn2])]; rfl
      have HN := Lib.hid hno
      clear hno hn2
      go_wp2_with (first | ((with_reducible refine at_load_cert ?_); refine wpList_load_cert rfl _ rfl (w.heap.size) (C) rfl (H1.out.1.1) ?_) | ((with_reducible refine at_store_cert ?_); refine wpList_store_cert rfl _ _ rfl (w.heap.size + 1 + 1) CV.zero (C) rfl rfl (H1.out.1.2.1) (hC) ?_; intro wz hBz hgz) | fail)
      refine P3.ret rfl H1.out.1 hgz hBz rfl rfl ?_
      exact HN.out
end Go.Proofs.Ytmnekhliblkibaa
