/- The contract of the document's extensions. (Its drawn region is printed by genrc10.py from XRC10_0.txt.) -/
import Derived.Test.YtmnekhliblkibaaRC9
import Derived.Test.YtmnekhliblkibaaParseR
namespace Go.Proofs.Ytmnekhliblkibaa
open Go.RowKit
set_option maxRecDepth 1000000
set_option linter.unusedVariables false
set_option linter.unusedSimpArgs false

/-- The answer of extension, by parts. -/
def JE (C : CV) (o : Option (Fl × List UInt8)) : Nat → Value → Prop
  | 0, v => ∃ f nm, v = .tuple #[CV.val {C with fl := f}, .string ⟨nm.toArray⟩, .bool o.isSome] ∧ ∀ p, o = some p → p = (f, nm)
  | 1, v => ∃ f, v = CV.val {C with fl := f} ∧ ∀ p, o = some p → p.1 = f
  | 2, v => ∃ nm : List UInt8, v = .string ⟨nm.toArray⟩ ∧ ∀ p, o = some p → p.2 = nm
  | _, v => v = .bool o.isSome
theorem ExtQ.je {C : CV} {o : Option (Fl × List UInt8)} {w w' : World} {e : Ending} (h : ExtQ w C o e w') : ∃ v, e = .returned v ∧ JE C o 0 v ∧ Below w.heap.size w w' := by
  obtain ⟨q, f, nm, rfl, hb, ho⟩ := h
  cases q with
  | false => exact ⟨_, rfl, ⟨f, nm, by rw [ho]; rfl, fun p hp => by rw [ho] at hp; cases hp⟩, hb⟩
  | true => exact ⟨_, rfl, ⟨f, nm, by rw [ho]; rfl, fun p hp => by rw [ho] at hp; injection hp with hp; exact hp.symm⟩, hb⟩
theorem Sta.con (B : Nat) (K : Value → Prop) : Sta1 B fun v _ => K v := ⟨fun _ _ _ _ h => h, fun _ _ _ _ h => h⟩
section
variable {o : Oper} {a : Act} {w : World} {Q : Exit → Act → World → Prop} {J : Value → World → Prop} {B : Nat}
theorem N_idx {x y : Operand} {g n c k : Nat} (ho : o.op = .indexAddr 82 x y) (hd : o.dst ≠ none) (hx : a.eval x = .slice (some ⟨g, 0, none⟩) n c) (hy : a.eval y = .int .i64 (k : Int)) (hk : k < n) (hJ : J (.pointer (some ⟨g, k * 3, none⟩)) w) : o.wp Try.prog a w (KN a o J w) Q :=
  N_val (by simp only [execOp, ho]; rw [hx, hy]; simp [go_sem, Try.underlying82, hk, show (k : Int) < n by omega]) hd hJ
theorem load_elem {w : World} {g i : Nat} {v0 v1 v2 : Value} (h0 : w.cell? ⟨g, i, none⟩ = some v0) (h1 : w.cell? ⟨g, i + 1, none⟩ = some v1) (h2 : w.cell? ⟨g, i + 2, none⟩ = some v2) : (loadVar 50 ⟨g, i, none⟩).run Try.prog w = .ok (.agg #[v0, v1, v2]) w := by
  have h := run_loadVar_mid (P := Try.prog) w g i 50 [v0, v1, v2] _ (fun j v hv => by
    match j, hv with
    | 0, hv => simp at hv; subst hv; exact h0
    | 1, hv => simp at hv; subst hv; exact h1
    | 2, hv => simp at hv; subst hv; exact h2
    | j + 3, hv => simp at hv) Try.underlying50 rfl rfl
  exact h
theorem map_two {f : Operand → Value} {x y : Operand} {u v : Value} (h1 : f x = u) (h2 : f y = v) : (#[x, y] : Array Operand).map f = #[u, v] := by simp [h1, h2]
theorem N_je1 {C : CV} {oo : Option (Fl × List UInt8)} {x : Operand} (ho : o.op = .extract x 0) (hd : o.dst ≠ none) (hx : JE C oo 0 (a.eval x)) : o.wp Try.prog a w (KN a o (fun v _ => JE C oo 1 v) w) Q := by
  obtain ⟨f, nm, e, hp⟩ := hx
  exact N_val (by simp only [execOp, ho, e]; rfl) hd ⟨f, rfl, fun p h => by rw [hp p h]⟩
theorem N_je2 {C : CV} {oo : Option (Fl × List UInt8)} {x : Operand} (ho : o.op = .extract x 1) (hd : o.dst ≠ none) (hx : JE C oo 0 (a.eval x)) : o.wp Try.prog a w (KN a o (fun v _ => JE C oo 2 v) w) Q := by
  obtain ⟨f, nm, e, hp⟩ := hx
  exact N_val (by simp only [execOp, ho, e]; rfl) hd ⟨nm, rfl, fun p h => by rw [hp p h]⟩
theorem N_je3 {C : CV} {oo : Option (Fl × List UInt8)} {x : Operand} (ho : o.op = .extract x 2) (hd : o.dst ≠ none) (hx : JE C oo 0 (a.eval x)) : o.wp Try.prog a w (KN a o (fun v _ => JE C oo 3 v) w) Q := by
  obtain ⟨f, nm, e, hp⟩ := hx
  exact N_val (by simp only [execOp, ho, e]; rfl) hd rfl
/-- The variable that extension's certificate is laid in. -/
def JX (B : Nat) (C : CV) (oo : Option (Fl × List UInt8)) (v : Value) (w : World) : Prop := ∃ g f, v = .pointer (some ⟨g, 0, none⟩) ∧ B ≤ g ∧ Bc w g {C with fl := f} ∧ ∀ p, oo = some p → p.1 = f
theorem JX.rn {C : CV} {oo : Option (Fl × List UInt8)} (v : Value) (w w' : World) (hr : RN w w') (h : JX B C oo v w) : JX B C oo v w' := by
  obtain ⟨g, f, e, hB, h1, h2⟩ := h
  exact ⟨g, f, e, hB, h1.below hr h1.lt, h2⟩
theorem N_storeX {C : CV} {oo : Option (Fl × List UInt8)} (hone : ∀ v ∈ C.cells.toList, v.oneCell' = true) {ops : Array Oper} {p : Nat} {x y : Operand} {J : Value → World → Prop} (hJt : ∀ v w, J v w) (ho : o.op = .store 32 x y) (hd : o.dst = none) (hB : B ≤ w.heap.size) (hx : JP B [] 3 (a.eval x) w) (hs : slotOf ops a p = a.eval x) (hy : JE C oo 1 (a.eval y)) :
    o.wp Try.prog a w (fun a' w' => ∃ v, a' = a.put o.dst v ∧ (o.dst = none → v = undef) ∧ J v w' ∧ SN B w w' ∧ JX B C oo (slotOf ops a p) w') Q := by
  obtain ⟨g, C0, e, hg, hC⟩ := hx
  obtain ⟨f, e2, hp⟩ := hy
  refine wp_store_cert x y ho g C0 {C with fl := f} e e2 hC (CV.fl_one hone f) ?_
  intro w' hD' hg'
  exact ⟨undef, rfl, fun _ => rfl, hJt _ _, SN.store hg hC hD' hg' hB, ⟨g, f, hs.trans e, hg, hD', hp⟩⟩
end

theorem str_info : (Try.prog.info? 9).map (fun i => (i.zero, i.size, i.bytes)) = some (some (.string ⟨#[]⟩), 1, 16) := by kernel_rfl
def sv (x : List UInt8) : Value := .string ⟨x.toArray⟩
theorem sv_one (xs : List (List UInt8)) : ∀ u ∈ xs.map sv, u.oneCell' = true := by
  intro u hu
  obtain ⟨_, _, rfl⟩ := List.mem_map.1 hu
  rfl
theorem grown_below {w wr w' : World} {r : Option Nat} (h : w.grownBy wr r) (hb : Below w.heap.size wr w') : w.grownBy w' r :=
  ⟨hb.os.trans h.os, hb.tape.trans h.tape, hb.output.trans h.output, Nat.le_trans h.size hb.size, fun k hk hr => (hb.block k hk).trans (h.block k hk hr)⟩
theorem P3.low {w W W' : World} {C : CV} {B : Nat} (h : P3 w W C) (hb : Below B W W') (hB : w.heap.size + 1 + 1 + 1 ≤ B) : P3 w W' C :=
  ⟨h.1.below hb (by omega), h.2.1.below hb (by omega), h.2.2.1.trans (hb.mono (by omega)), Nat.le_trans h.2.2.2 hb.size⟩

set_option maxHeartbeats 16000000 in
theorem rextensions_any (C : CV) (hC : ∀ v ∈ C.cells.toList, v.oneCell' = true) (t : UInt8) (A1 A2 : Option Addr) (n1 c1 n2 c2 : Nat) (b r : List UInt8) (w : World) (h1 : Rd w w.heap.size A1 n1 c1 b) (hn : n1 ≤ 1099511627) :
    Calls Try.prog 79 #[C.val, .agg #[.int .u8 (t.toNat : Int), .slice A1 n1 c1, .slice A2 n2 c2]] w (FlQ w C (RC.extensions C.fl (t, b, r))) := by
  have hP0 := P3.start w C #[.int .u8 (t.toNat : Int), .slice A1 n1 c1, .slice A2 n2 c2]
  have HLB := Lib.hid h1.len
  show Calls _ _ #[.agg C.cells, _] _ _
  have hcl : C.cells.size = 24 := rfl
  go_enter Try.func79, Try.ntmps79
  go_wp2_with fail
  refine (rparts_any t A1 A2 n1 c1 n2 c2 163 b r _ ((((h1.alloc (Nat.le_refl _) _).alloc (by simp) _).alloc (by simp; omega) _).more (by simp; omega)) hn).mono ?_
  rintro e w1 ⟨q, A, n, c0, L, rfl, hb1, hE, hnl, hm, ho⟩
  have hP1 := hP0.below hb1
  obtain ⟨l, hl⟩ : ∃ l, l = L.map EI.dat := ⟨_, rfl⟩
  rw [← hl] at hm ho
  have hll : l.length = n := by rw [hl, List.length_map]; exact hnl.symm
  have H1 := Lib.hid (And.intro hP1 (And.intro (hE.mono (lo' := w.heap.size + 1 + 1 + 1) (by simp) (Nat.le_refl _)) (And.intro hm (And.intro ho (And.intro hl hll)))))
  have hs1 : w.heap.size + 1 + 1 + 1 ≤ w1.heap.size := hP1.2.2.2
  clear hP0 hP1 hb1 hE hm ho h1 hnl hl hll
  cases q with
  | false =>
    go_wp2_with (first | ((with_reducible refine at_load_cert ?_); refine wpList_load_cert rfl _ rfl (w.heap.size) (C) rfl (H1.out.1.1) ?_) | ((with_reducible refine at_store_cert ?_); refine wpList_store_cert rfl _ _ rfl (w.heap.size + 1 + 1) CV.zero (C) rfl rfl (H1.out.1.2.1) (hC) ?_; intro wz hBz hgz) | fail)
    refine P3.ret rfl H1.out.1 hgz hBz rfl rfl ?_
    unfold RC.extensions; rw [H1.out.2.2.2.1]; rfl
  | true =>
  by_cases hn1 : n = 1
  case neg =>
    have hn1' : ((n : Int) != 1) = true := by simp; omega
    have hno : RC.extensions C.fl (t, b, r) = none := by
      unfold RC.extensions; rw [H1.out.2.2.2.1]
      simp only [if_true, Option.bind_some, H1.out.2.2.2.2.2]
      rw [must_f (by simp [hn1])]; rfl
    have HN := Lib.hid hno
    clear hn1 hno
    go_wp2_with (first | ((with_reducible refine at_load_cert ?_); refine wpList_load_cert rfl _ rfl (w.heap.size) (C) rfl (H1.out.1.1) ?_) | ((with_reducible refine at_store_cert ?_); refine wpList_store_cert rfl _ _ rfl (w.heap.size + 1 + 1) CV.zero (C) rfl rfl (H1.out.1.2.1) (hC) ?_; intro wz hBz hgz) | fail)
    refine P3.ret rfl H1.out.1 hgz hBz rfl rfl ?_
    exact HN.out
  subst hn1
  obtain ⟨g0, rfl, hg0, hg02⟩ := H1.out.2.1.spot_ (by omega)
  obtain ⟨t0, A3, n3, c3, b0, A4, n4, c4, x0, hx0, p0, p1, p2, R0, R1, _⟩ := H1.out.2.1.el H1.out.2.2.2.2.1 (Below.refl w1.heap.size w1) (Nat.le_refl _) 0 0 (by omega) rfl
  have hl0 := len_mem H1.out.2.2.1 hx0
  have hn3 : n3 ≤ 1099511627 := by have := R0.len; omega
  have hsp : RC.extensions C.fl (t, b, r) = (RC.parts 48 (t0, b0, x0)).bind fun l => (Cert.must (decide (0 < l.length))).bind fun _ => RC.exts C.fl [] l := by
    unfold RC.extensions; rw [H1.out.2.2.2.1]
    simp only [if_true, Option.bind_some, H1.out.2.2.2.2.2]
    rw [must_t (by decide), hx0]; rfl
  have H2 := Lib.hid (And.intro hsp R0)
  clear hsp hx0 R0 R1 hl0
  go_wp2_with fail
  refine (rparts_any t0 A3 A4 n3 c3 n4 c4 48 b0 x0 _ H2.out.2 hn3).mono ?_
  rintro e w2 ⟨q2, A, n, c, M, rfl, hb2, hE2, hnl2, hm2, ho2⟩
  have hP2 := H1.out.1.below hb2
  obtain ⟨l2, hl2⟩ : ∃ l2, l2 = M.map EI.dat := ⟨_, rfl⟩
  rw [← hl2] at hm2 ho2
  have hll2 : l2.length = n := by rw [hl2, List.length_map]; exact hnl2.symm
  have hcm : n ≤ 9223372036854775807 := by
    obtain ⟨_, _, e, q1, q2, _⟩ := hE2.1.shape
    injection e with e1 e2 e3
    omega
  have hs2 : w.heap.size + 1 + 1 + 1 ≤ w2.heap.size := hP2.2.2.2
  have H3 := Lib.hid (And.intro hP2 (And.intro (hE2.mono (lo' := w.heap.size + 1 + 1 + 1) hs1 (Nat.le_refl _)) (And.intro hm2 (And.intro ho2 (And.intro hl2 hll2)))))
  clear hP2 hE2 hm2 ho2 hl2 hll2 hnl2 hb2 p0 p1 p2
  cases q2 with
  | false =>
    go_wp2_with (first | ((with_reducible refine at_load_cert ?_); refine wpList_load_cert rfl _ rfl (w.heap.size) (C) rfl (H3.out.1.1) ?_) | ((with_reducible refine at_store_cert ?_); refine wpList_store_cert rfl _ _ rfl (w.heap.size + 1 + 1) CV.zero (C) rfl rfl (H3.out.1.2.1) (hC) ?_; intro wz hBz hgz) | fail)
    refine P3.ret rfl H3.out.1 hgz hBz rfl rfl ?_
    rw [H2.out.1, H3.out.2.2.2.1]; rfl
  | true =>
  have hsp3 : RC.extensions C.fl (t, b, r) = (Cert.must (decide (0 < n))).bind fun _ => RC.exts C.fl [] l2 := by
    rw [H2.out.1, H3.out.2.2.2.1]
    simp only [if_true, Option.bind_some, H3.out.2.2.2.2.2]
  have HS := Lib.hid hsp3
  clear hsp3
  by_cases hn0 : n = 0
  case pos =>
    subst hn0
    go_wp2_with (first | ((with_reducible refine at_load_cert ?_); refine wpList_load_cert rfl _ rfl (w.heap.size) (C) rfl (H3.out.1.1) ?_) | ((with_reducible refine at_store_cert ?_); refine wpList_store_cert rfl _ _ rfl (w.heap.size + 1 + 1) CV.zero (C) rfl rfl (H3.out.1.2.1) (hC) ?_; intro wz hBz hgz) | fail)
    refine P3.ret rfl H3.out.1 hgz hBz rfl rfl ?_
    rw [HS.out]; rfl
  have hn0' : ((n : Int) == 0) = false := by simp; omega
  have hspec : RC.extensions C.fl (t, b, r) = RC.exts C.fl [] l2 := by rw [HS.out, must_t (by simp; omega)]; rfl
  have HSP := Lib.hid hspec
  clear hspec HS
  obtain ⟨g, rfl, hg, hg2⟩ := H3.out.2.1.spot_ (by omega)
  have hnl1 : n ≤ 1099511627 := by
    have hz : RC.parts 48 (t0, b0, x0) = some l2 := H3.out.2.2.2.1
    obtain ⟨_, h1, h2⟩ := rparts_inv (u := 48) (by decide) hz
    have h3 := raws_few h2
    rw [← h1] at h3
    have := H2.out.2.len
    have := H3.out.2.2.2.2.2
    dsimp only at h3
    omega
  go_wp2
  go_loopw [9, 10] (fun v i wr => ∃ (k : Nat) (names : List (List UInt8)) (f : Fl), k ≤ n ∧ i = .int .i64 k ∧ OwnC 9 1 wr w2.heap.size wr.heap.size v names.length (names.map sv) ∧ names.length ≤ k ∧ P3 w wr {C with fl := f} ∧ w2.grownBy wr (some w.heap.size) ∧ RC.exts C.fl [] l2 = RC.exts f names (l2.drop k)) (fun _ i _ => n - (intOf i).toNat)
  case atStart => exact ⟨0, [], C.fl, Nat.zero_le _, rfl, OwnC.nil_, Nat.le_refl _, H3.out.1, grows_ (Below.refl _ _) _, rfl⟩
  case round =>
    obtain ⟨k, names, f, hk, rfl, hO, hnk, hP, hgw, hrun⟩ := hrel
    obtain ⟨V, rfl⟩ : ∃ V, V = wr := ⟨_, rfl⟩
    have hsr := hgw.size
    obtain ⟨A9, c9, rfl, hc9, hcm9, hn9, hr9⟩ := hO.shape
    obtain ⟨m, hm⟩ : ∃ m, names.length = m := ⟨_, rfl⟩
    rw [hm] at hO hnk hc9 hr9 ⊢
    have HK := Lib.hid (And.intro hO (And.intro hP (And.intro hgw (And.intro hrun (And.intro hr9 hm)))))
    clear hO hP hgw hrun hr9 hm hn9
    by_cases hlt : k < n
    · have hlt' : (k : Int) < n := by omega
      have hEr := H3.out.2.1.keepRows (KeepRows.grown HK.out.2.2.1 (by omega))
      obtain ⟨te, Ae, ne, ce, be, Af, nf, cf, xe, hxe, s0, s1, s2, S0, S1, hxk⟩ := hEr.el H3.out.2.2.2.2.1 (Below.refl w2.heap.size V) (Nat.le_refl _) k (k * 3) hlt rfl
      have hle := len_mem H3.out.2.2.1 hxe
      have hne : ne ≤ 1099511627 := by have := S0.len; have := H2.out.2.len; omega
      have hdrop : l2.drop k = (te, be, xe) :: l2.drop (k + 1) := by
        have hlk : k < l2.length := by have := H3.out.2.2.2.2.2; omega
        rw [← hxe, List.getD_eq_getElem?_getD, List.getElem?_eq_getElem hlk]
        exact List.drop_eq_getElem_cons hlk
      obtain ⟨o, ho⟩ : ∃ o, RC.extension f (te, be, xe) = o := ⟨_, rfl⟩
      have hr : RC.extensions C.fl (t, b, r) = o.bind fun p => if names.contains p.2 = true then none else RC.exts p.1 (names ++ [p.2]) (l2.drop (k + 1)) := by
        rw [HSP.out, HK.out.2.2.2.1, hdrop, RC.exts, ho]
      have hR0 : Rd V V.heap.size Ae ne ce be := S0.more hsr
      have hcall : ∀ W, Below V.heap.size V W → Calls Try.prog 100 #[CV.val {C with fl := f}, .agg #[.int .u8 (te.toNat : Int), .slice Ae ne ce, .slice Af nf cf]] W (ExtQ W {C with fl := f} o) := fun W hW => by
        have := rextension_any {C with fl := f} (CV.fl_one hC f) te Ae Af ne ce nf cf be xe W (hR0.up hW) hne
        rwa [ho] at this
      have HX := Lib.hid (And.intro hr (And.intro hcall (And.intro s0 (And.intro s1 s2))))
      have hgl : g < V.heap.size := by omega
      clear hdrop hr hR0 hcall S0 S1 hxe hle ho hEr hxk s0 s1 s2
      go_upto_region 11 with fail
      refine wp_region_two 11 10 (JL [(fun v _ => v = CV.val {C with fl := f}), (fun v _ => v = .slice (some ⟨g, 0, none⟩) n c), (fun v _ => v = .int .i64 (k : Int)), (fun v _ => v = .pointer (some ⟨g, k * 3, none⟩)), (fun v _ => v = .agg #[.int .u8 (te.toNat : Int), .slice Ae ne ce, .slice Af nf cf]), (fun v _ => JE {C with fl := f} o 0 v), (fun v _ => JE {C with fl := f} o 0 v), (fun v _ => JE {C with fl := f} o 1 v), (fun v _ => JE {C with fl := f} o 2 v), (fun v _ => JE {C with fl := f} o 3 v), (JP V.heap.size [] 3), (fun _ _ => True), (fun v _ => JE {C with fl := f} o 2 v), (fun v _ => JE {C with fl := f} o 3 v)]) (JX V.heap.size {C with fl := f} o) (Below V.heap.size V) RN (SN V.heap.size) ?hm ?hmono ?hmonoS JX.rn ?hGR ?hGS ?hd ?hg ?hA ?hW ((Below.refl _ _).drew) ?hs ?hdone
      case hm => rfl
      case hmono => exact JL.rn (B := V.heap.size) (Sta.cons (Sta.con _ _) (Sta.cons (Sta.con _ _) (Sta.cons (Sta.con _ _) (Sta.cons (Sta.con _ _) (Sta.cons (Sta.con _ _) (Sta.cons (Sta.con _ _) (Sta.cons (Sta.con _ _) (Sta.cons (Sta.con _ _) (Sta.cons (Sta.con _ _) (Sta.cons (Sta.con _ _) (Sta.cons (Sta.jp _ _ _) (Sta.cons (Sta.true _) (Sta.cons (Sta.con _ _) (Sta.cons (Sta.con _ _) Sta.nil))))))))))))))
      case hmonoS => exact JL.sn (B := V.heap.size) (Sta.cons (Sta.con _ _) (Sta.cons (Sta.con _ _) (Sta.cons (Sta.con _ _) (Sta.cons (Sta.con _ _) (Sta.cons (Sta.con _ _) (Sta.cons (Sta.con _ _) (Sta.cons (Sta.con _ _) (Sta.cons (Sta.con _ _) (Sta.cons (Sta.con _ _) (Sta.cons (Sta.con _ _) (Sta.cons (Sta.jp _ _ _) (Sta.cons (Sta.true _) (Sta.cons (Sta.con _ _) (Sta.cons (Sta.con _ _) Sta.nil))))))))))))))
      case hGR => exact fun w w' h1 h2 => h1.trans (Below.mono h2 h1.size)
      case hGS => exact fun w w' h1 h2 => h1.trans h2.1
      case hd => show dstsOk _ 81 = true; decide +kernel
      case hg => decide +kernel
      case hA => decide +kernel
      case hW => decide +kernel
      case hs =>
        refine ⟨two_else (by decide) ?_, two_else (by decide) ?_, two_else (by decide) ?_, two_else (by decide) ?_, two_else (by decide) ?_, two_else (by decide) ?_, two_else (by decide) ?_, two_else (by decide) ?_, two_else (by decide) ?_, two_else (by decide) ?_, two_else (by decide) ?_, two_then ?_, two_else (by decide) ?_, two_else (by decide) ?_, trivial⟩
        · intro a W hfr hG hdep; exact N_load rfl (by simp) (hfr 2 (by decide +kernel)) (load_cert (HK.out.2.1.1.below hG HK.out.2.1.1.lt)) rfl
        · intro a W hfr hG hdep; exact N_move rfl (by simp) (hfr 8 (by decide +kernel))
        · intro a W hfr hG hdep; exact N_move rfl (by simp) (hfr 10 (by decide +kernel))
        · intro a W hfr hG hdep; exact N_idx rfl (by simp) (hdep 1 (by decide +kernel)) (hdep 2 (by decide +kernel)) hlt rfl
        · intro a W hfr hG hdep; exact N_load rfl (by simp) (hdep 3 (by decide +kernel)) (load_elem ((hG.cell (p := ⟨g, k * 3, none⟩) hgl).trans HX.out.2.2.1) ((hG.cell (p := ⟨g, k * 3 + 1, none⟩) hgl).trans HX.out.2.2.2.1) ((hG.cell (p := ⟨g, k * 3 + 2, none⟩) hgl).trans HX.out.2.2.2.2)) rfl
        · intro a W hfr hG hdep
          have e1 : a.eval (.tmp 50) = CV.val {C with fl := f} := hdep 0 (by decide +kernel)
          have e2 : a.eval (.tmp 54) = .agg #[.int .u8 (te.toNat : Int), .slice Ae ne ce, .slice Af nf cf] := hdep 4 (by decide +kernel)
          refine N_call rfl (by simp) Try.func100 rfl (by decide) (args := #[CV.val {C with fl := f}, .agg #[.int .u8 (te.toNat : Int), .slice Ae ne ce, .slice Af nf cf]]) ?_ (HX.out.2.1 W hG) (fun e w'' h => h.je)
          exact map_two e1 e2
        · intro a W hfr hG hdep; exact N_move rfl (by simp) (hdep 5 (by decide +kernel))
        · intro a W hfr hG hdep; exact N_je1 rfl (by simp) (hdep 6 (by decide +kernel))
        · intro a W hfr hG hdep; exact N_je2 rfl (by simp) (hdep 6 (by decide +kernel))
        · intro a W hfr hG hdep; exact N_je3 rfl (by simp) (hdep 6 (by decide +kernel))
        · intro a W hfr hG hdep; exact N_newc (B := V.heap.size) (b := []) rfl (by simp) hG.size
        · intro a W hfr hG hdep; exact N_storeX (CV.fl_one hC f) (p := 10) (fun _ _ => trivial) rfl rfl hG.size (hdep 10 (by decide +kernel)) rfl (hdep 7 (by decide +kernel))
        · intro a W hfr hG hdep; exact N_assign rfl (by simp) (hdep 8 (by decide +kernel))
        · intro a W hfr hG hdep; exact N_assign rfl (by simp) (hdep 9 (by decide +kernel))
      case hdone =>
        intro a W hdf hsz hfr hG hJ hV
        have hV : JX V.heap.size {C with fl := f} o (a.eval (.tmp 11)) W := hV
        obtain ⟨gv, f', hgv, hgB, hBv, hPv⟩ := hV
        have hnm : JE {C with fl := f} o 2 (a.eval (.tmp 12)) := hJ 12 (by decide)
        obtain ⟨nm, hnm, hPn⟩ := hnm
        have e := arr_eta a 81 hsz hdf
        rw [show (List.range 81).map (fun i => a.eval (.tmp i)) = a.eval (.tmp 0) :: a.eval (.tmp 1) :: a.eval (.tmp 2) :: a.eval (.tmp 3) :: a.eval (.tmp 4) :: a.eval (.tmp 5) :: a.eval (.tmp 6) :: a.eval (.tmp 7) :: a.eval (.tmp 8) :: a.eval (.tmp 9) :: a.eval (.tmp 10) :: a.eval (.tmp 11) :: a.eval (.tmp 12) :: a.eval (.tmp 13) :: a.eval (.tmp 14) :: a.eval (.tmp 15) :: a.eval (.tmp 16) :: a.eval (.tmp 17) :: a.eval (.tmp 18) :: a.eval (.tmp 19) :: a.eval (.tmp 20) :: a.eval (.tmp 21) :: a.eval (.tmp 22) :: a.eval (.tmp 23) :: a.eval (.tmp 24) :: a.eval (.tmp 25) :: a.eval (.tmp 26) :: a.eval (.tmp 27) :: a.eval (.tmp 28) :: a.eval (.tmp 29) :: a.eval (.tmp 30) :: a.eval (.tmp 31) :: a.eval (.tmp 32) :: a.eval (.tmp 33) :: a.eval (.tmp 34) :: a.eval (.tmp 35) :: a.eval (.tmp 36) :: a.eval (.tmp 37) :: a.eval (.tmp 38) :: a.eval (.tmp 39) :: a.eval (.tmp 40) :: a.eval (.tmp 41) :: a.eval (.tmp 42) :: a.eval (.tmp 43) :: a.eval (.tmp 44) :: a.eval (.tmp 45) :: a.eval (.tmp 46) :: a.eval (.tmp 47) :: a.eval (.tmp 48) :: a.eval (.tmp 49) :: a.eval (.tmp 50) :: a.eval (.tmp 51) :: a.eval (.tmp 52) :: a.eval (.tmp 53) :: a.eval (.tmp 54) :: a.eval (.tmp 55) :: a.eval (.tmp 56) :: a.eval (.tmp 57) :: a.eval (.tmp 58) :: a.eval (.tmp 59) :: a.eval (.tmp 60) :: a.eval (.tmp 61) :: a.eval (.tmp 62) :: a.eval (.tmp 63) :: a.eval (.tmp 64) :: a.eval (.tmp 65) :: a.eval (.tmp 66) :: a.eval (.tmp 67) :: a.eval (.tmp 68) :: a.eval (.tmp 69) :: a.eval (.tmp 70) :: a.eval (.tmp 71) :: a.eval (.tmp 72) :: a.eval (.tmp 73) :: a.eval (.tmp 74) :: a.eval (.tmp 75) :: a.eval (.tmp 76) :: a.eval (.tmp 77) :: a.eval (.tmp 78) :: a.eval (.tmp 79) :: a.eval (.tmp 80) :: [] from rfl] at e
        rw [show a.eval (.tmp 11) = .pointer (some ⟨gv, 0, none⟩) from hgv] at e
        rw [show a.eval (.tmp 12) = .string ⟨nm.toArray⟩ from hnm] at e
        rw [show a.eval (.tmp 13) = .bool o.isSome from hJ 13 (by decide)] at e
        rw [show a.eval (.tmp 0) = .agg C.cells from hfr 0 (by decide +kernel)] at e
        rw [show a.eval (.tmp 1) = .agg #[.int .u8 (t.toNat : Int), .slice A1 n1 c1, .slice A2 n2 c2] from hfr 1 (by decide +kernel)] at e
        rw [show a.eval (.tmp 2) = .pointer (some ⟨w.heap.size, 0, none⟩) from hfr 2 (by decide +kernel)] at e
        rw [show a.eval (.tmp 3) = .pointer (some ⟨w.heap.size + 1, 0, none⟩) from hfr 3 (by decide +kernel)] at e
        rw [show a.eval (.tmp 4) = .pointer (some ⟨w.heap.size + 1 + 1, 0, none⟩) from hfr 4 (by decide +kernel)] at e
        rw [show a.eval (.tmp 6) = .slice (some ⟨g0, 0, none⟩) 1 c0 from hfr 6 (by decide +kernel)] at e
        rw [show a.eval (.tmp 7) = .bool true from hfr 7 (by decide +kernel)] at e
        rw [show a.eval (.tmp 8) = .slice (some ⟨g, 0, none⟩) n c from hfr 8 (by decide +kernel)] at e
        rw [show a.eval (.tmp 9) = .slice A9 m c9 from hfr 9 (by decide +kernel)] at e
        rw [show a.eval (.tmp 10) = .int .i64 (k : Int) from hfr 10 (by decide +kernel)] at e
        rw [show a.eval (.tmp 15) = .tuple #[.slice (some ⟨g0, 0, none⟩) 1 c0, .bool true] from hfr 15 (by decide +kernel)] at e
        rw [show a.eval (.tmp 16) = .agg #[.int .u8 (t.toNat : Int), .slice A1 n1 c1, .slice A2 n2 c2] from hfr 16 (by decide +kernel)] at e
        rw [show a.eval (.tmp 17) = .tuple #[.slice (some ⟨g0, 0, none⟩) 1 c0, .bool true] from hfr 17 (by decide +kernel)] at e
        rw [show a.eval (.tmp 18) = .slice (some ⟨g0, 0, none⟩) 1 c0 from hfr 18 (by decide +kernel)] at e
        rw [show a.eval (.tmp 19) = .bool true from hfr 19 (by decide +kernel)] at e
        rw [show a.eval (.tmp 20) = .bool true from hfr 20 (by decide +kernel)] at e
        rw [show a.eval (.tmp 21) = .bool false from hfr 21 (by decide +kernel)] at e
        rw [show a.eval (.tmp 22) = .bool false from hfr 22 (by decide +kernel)] at e
        rw [show a.eval (.tmp 23) = .slice (some ⟨g0, 0, none⟩) 1 c0 from hfr 23 (by decide +kernel)] at e
        rw [show a.eval (.tmp 24) = .int .i64 1 from hfr 24 (by decide +kernel)] at e
        rw [show a.eval (.tmp 25) = .bool false from hfr 25 (by decide +kernel)] at e
        rw [show a.eval (.tmp 26) = .bool false from hfr 26 (by decide +kernel)] at e
        rw [show a.eval (.tmp 27) = undef from hfr 27 (by decide +kernel)] at e
        rw [show a.eval (.tmp 28) = .tuple #[.slice (some ⟨g, 0, none⟩) n c, .bool true] from hfr 28 (by decide +kernel)] at e
        rw [show a.eval (.tmp 29) = .slice (some ⟨g0, 0, none⟩) 1 c0 from hfr 29 (by decide +kernel)] at e
        rw [show a.eval (.tmp 30) = .pointer (some ⟨g0, 0, none⟩) from hfr 30 (by decide +kernel)] at e
        rw [show a.eval (.tmp 31) = .agg #[.int .u8 (t0.toNat : Int), .slice A3 n3 c3, .slice A4 n4 c4] from hfr 31 (by decide +kernel)] at e
        rw [show a.eval (.tmp 32) = .tuple #[.slice (some ⟨g, 0, none⟩) n c, .bool true] from hfr 32 (by decide +kernel)] at e
        rw [show a.eval (.tmp 33) = .slice (some ⟨g, 0, none⟩) n c from hfr 33 (by decide +kernel)] at e
        rw [show a.eval (.tmp 34) = .bool true from hfr 34 (by decide +kernel)] at e
        rw [show a.eval (.tmp 35) = .bool true from hfr 35 (by decide +kernel)] at e
        rw [show a.eval (.tmp 36) = .bool false from hfr 36 (by decide +kernel)] at e
        rw [show a.eval (.tmp 37) = .bool false from hfr 37 (by decide +kernel)] at e
        rw [show a.eval (.tmp 38) = .slice (some ⟨g, 0, none⟩) n c from hfr 38 (by decide +kernel)] at e
        rw [show a.eval (.tmp 39) = .int .i64 (n : Int) from hfr 39 (by decide +kernel)] at e
        rw [show a.eval (.tmp 40) = .bool false from hfr 40 (by decide +kernel)] at e
        rw [show a.eval (.tmp 41) = .bool false from hfr 41 (by decide +kernel)] at e
        rw [show a.eval (.tmp 42) = undef from hfr 42 (by decide +kernel)] at e
        rw [show a.eval (.tmp 80) = undef from hfr 80 (by decide +kernel)] at e
        generalize a.eval (.tmp 5) = u5 at e
        generalize a.eval (.tmp 14) = u14 at e
        generalize a.eval (.tmp 43) = u43 at e
        generalize a.eval (.tmp 44) = u44 at e
        generalize a.eval (.tmp 45) = u45 at e
        generalize a.eval (.tmp 46) = u46 at e
        generalize a.eval (.tmp 47) = u47 at e
        generalize a.eval (.tmp 48) = u48 at e
        generalize a.eval (.tmp 49) = u49 at e
        generalize a.eval (.tmp 50) = u50 at e
        generalize a.eval (.tmp 51) = u51 at e
        generalize a.eval (.tmp 52) = u52 at e
        generalize a.eval (.tmp 53) = u53 at e
        generalize a.eval (.tmp 54) = u54 at e
        generalize a.eval (.tmp 55) = u55 at e
        generalize a.eval (.tmp 56) = u56 at e
        generalize a.eval (.tmp 57) = u57 at e
        generalize a.eval (.tmp 58) = u58 at e
        generalize a.eval (.tmp 59) = u59 at e
        generalize a.eval (.tmp 60) = u60 at e
        generalize a.eval (.tmp 61) = u61 at e
        generalize a.eval (.tmp 62) = u62 at e
        generalize a.eval (.tmp 63) = u63 at e
        generalize a.eval (.tmp 64) = u64 at e
        generalize a.eval (.tmp 65) = u65 at e
        generalize a.eval (.tmp 66) = u66 at e
        generalize a.eval (.tmp 67) = u67 at e
        generalize a.eval (.tmp 68) = u68 at e
        generalize a.eval (.tmp 69) = u69 at e
        generalize a.eval (.tmp 70) = u70 at e
        generalize a.eval (.tmp 71) = u71 at e
        generalize a.eval (.tmp 72) = u72 at e
        generalize a.eval (.tmp 73) = u73 at e
        generalize a.eval (.tmp 74) = u74 at e
        generalize a.eval (.tmp 75) = u75 at e
        generalize a.eval (.tmp 76) = u76 at e
        generalize a.eval (.tmp 77) = u77 at e
        generalize a.eval (.tmp 78) = u78 at e
        generalize a.eval (.tmp 79) = u79 at e
        subst e
        clear hfr hJ hsz hdf hgv hnm
        have hPW := HK.out.2.1.low hG (by omega)
        have H4 := Lib.hid (And.intro hPW (And.intro hBv (And.intro hPv (And.intro hPn hG))))
        have hsW := hG.size
        clear hPW hBv hPv hPn hG
        obtain ⟨q, hq⟩ : ∃ q, o.isSome = q := ⟨_, rfl⟩
        rw [hq]
        cases q with
        | false =>
          have hno : RC.extensions C.fl (t, b, r) = none := by
            rw [HX.out.1]
            cases o with
            | none => rfl
            | some p => cases hq
          have HN := Lib.hid hno
          clear hno hq
          go_wp2_with (first | ((with_reducible refine at_load_cert ?_); refine wpList_load_cert rfl _ rfl (w.heap.size) ({C with fl := f}) rfl (H4.out.1.1) ?_) | ((with_reducible refine at_store_cert ?_); refine wpList_store_cert rfl _ _ rfl (w.heap.size + 1 + 1) CV.zero ({C with fl := f}) rfl rfl (H4.out.1.2.1) (CV.fl_one hC f) ?_; intro wz hBz hgz) | fail)
          refine P3.ret rfl H4.out.1 hgz hBz rfl rfl ?_
          exact HN.out
        | true =>
          obtain ⟨p, rfl⟩ := Option.isSome_iff_exists.1 hq
          obtain ⟨rfl, rfl⟩ : p.1 = f' ∧ p.2 = nm := ⟨H4.out.2.2.1 p rfl, H4.out.2.2.2.1 p rfl⟩
          obtain ⟨f', nm⟩ := p
          dsimp only at H4 ⊢
          have hr2 : RC.extensions C.fl (t, b, r) = if names.contains nm = true then none else RC.exts f' (names ++ [nm]) (l2.drop (k + 1)) := HX.out.1
          have HR := Lib.hid hr2
          clear hr2 hq
          have hr9 := HK.out.2.2.2.2.1
          have HO9 := Lib.hid (HK.out.1.below H4.out.2.2.2.2 (Nat.le_refl _))
          go_wp2
          go_loopw [14] (fun i wx => ∃ j : Nat, j ≤ m ∧ i = .int .i64 j ∧ wx = W ∧ ∀ x, x ∈ names.take j → x ≠ nm) (fun i _ => m - (intOf i).toNat)
          case atStart => exact ⟨0, Nat.zero_le _, rfl, rfl, by simp⟩
          case round =>
            obtain ⟨j, hj, rfl, rfl, hseen⟩ := hrel
            have HSE := Lib.hid hseen
            clear hseen
            by_cases hjm : j < m
            · have hjm' : (j : Int) < m := by omega
              obtain ⟨x, hx⟩ : ∃ x, names[j]? = some x := ⟨_, List.getElem?_eq_getElem (by have := HK.out.2.2.2.2.2; omega)⟩
              obtain ⟨⟨g9, og, pg⟩, rfl, hg9, hcell⟩ := hr9.2 (by omega)
              obtain ⟨rfl, rfl⟩ : og = 0 ∧ pg = none := by
                rcases HK.out.1.1.2 with ⟨e, _⟩ | ⟨g', cap, cur, e, _⟩
                · cases e
                · injection e with e _ _
                  injection e with e
                  injection e with e1 e2 e3
                  exact ⟨e2, e3⟩
              have hcx0 := hcell j (sv x) (by rw [List.getElem?_map, hx]; rfl)
              have hcx : wr.cell? ⟨g9, j, none⟩ = some (.string ⟨x.toArray⟩) := by
                rw [H4.out.2.2.2.2.cell (p := ⟨g9, j, none⟩) hg9]
                simpa [Addr.add_lit, sv] using hcx0
              clear hcell hcx0
              obtain ⟨z, hz⟩ : ∃ z, (x == nm) = z := ⟨_, rfl⟩
              have HZ := Lib.hid (And.intro hx hz)
              clear hx
              cases z with
              | true =>
                have hno : RC.extensions C.fl (t, b, r) = none := by
                  rw [HR.out, if_pos]
                  rw [List.contains_eq_mem, decide_eq_true_eq, ← beq_iff_eq.1 hz]
                  exact List.mem_of_getElem? HZ.out.1
                have HN := Lib.hid hno
                clear hno
                go_wp2_with (first | ((with_reducible refine at_load_cert ?_); refine wpList_load_cert rfl _ rfl (w.heap.size) ({C with fl := f}) rfl (H4.out.1.1) ?_) | ((with_reducible refine at_store_cert ?_); refine wpList_store_cert rfl _ _ rfl (w.heap.size + 1 + 1) CV.zero ({C with fl := f}) rfl rfl (H4.out.1.2.1) (CV.fl_one hC f) ?_; intro wz hBz hgz) | fail)
                refine P3.ret rfl H4.out.1 hgz hBz rfl rfl ?_
                exact HN.out
              | false =>
                go_wp2
                go_roundw
                case rel =>
                  refine ⟨j + 1, by omega, by go_num, by first | rfl | trivial, ?_⟩
                  intro y hy
                  rw [List.take_add_one, HZ.out.1, Option.toList_some, List.mem_append, List.mem_singleton] at hy
                  rcases hy with hy | rfl
                  · exact HSE.out y hy
                  · intro e; rw [e] at hz; simp at hz
                case measure => simp [intOf]; omega
            · obtain rfl : m = j := by omega
              have hge : ¬ (m : Int) < m := by omega
              have hnc : RC.extensions C.fl (t, b, r) = RC.exts f' (names ++ [nm]) (l2.drop (k + 1)) := by
                rw [HR.out, if_neg]
                rw [List.contains_eq_mem, decide_eq_true_eq]
                intro hmem
                exact HSE.out nm (by rw [List.take_of_length_le (by have := HK.out.2.2.2.2.2; omega)]; exact hmem) rfl
              have HN := Lib.hid hnc
              clear hnc
              have hw2 : w2.heap.size ≤ wr.heap.size := by omega
              go_wp2_with (first
                | (at_builtin
                   refine wpList_appC rfl (.tmp 75) (.tmp 77) 140 rfl 9 _ 1 16 str_info Try.underlying140 rfl (by omega) w2.heap.size V.heap.size _ m (names.map sv) rfl (HO9.out.alloc (by omega) _) (by simp; omega) _ _ 1 1 [sv nm] rfl (Reads.one wr 9 _) (by simp [sv, Value.oneCell']) (by omega) (by omega) ?_
                   intro v6 w6 ho6 hg6 hat6 hb6
                   have hBv6 : Bc w6 gv {C with fl := f'} := Blk.grown (Blk.alloc H4.out.2.1 _) hg6 (fun e => by have := HK.out.1.2 gv e.symm; omega)
                   have hP6 : P3 w w6 {C with fl := f} := (H4.out.1.below ((Below.refl _ _).alloc (Nat.le_refl _) _)).low hb6 (by omega)
                   have hG6 : w2.grownBy w6 (some w.heap.size) := grown_below (grown_below (grown_below HK.out.2.2.1 (H4.out.2.2.2.2.mono (by omega))) ((Below.refl _ _).alloc hw2 _)) hb6)
                | ((with_reducible refine at_load_cert ?_); refine wpList_load_cert rfl _ rfl gv {C with fl := f'} rfl hBv6 ?_)
                | ((with_reducible refine at_store_cert ?_); refine wpList_store_cert rfl _ _ rfl w.heap.size {C with fl := f} {C with fl := f'} rfl rfl hP6.1 (CV.fl_one hC f') ?_; intro w7 hB7 hg7)
                | fail)
              go_roundw
              case rel =>
                have hlen : (names ++ [nm]).length = m + 1 := by rw [List.length_append, HK.out.2.2.2.2.2]; rfl
                refine ⟨k + 1, names ++ [nm], f', by omega, by go_num, ?_, by omega, hP6.grown hg7 hB7, hG6.trans hg7, ?_⟩
                · rw [hlen, List.map_append]
                  exact (ho6.keep (fun j h1 h2 => hg7.block j h2 (fun e => by injection e with e; omega))).mono (Nat.le_refl _) hg7.size
                · rw [← HSP.out, HN.out]
              case measure => simp [intOf]; omega
    · obtain rfl : n = k := by omega
      have hge : ¬ (n : Int) < n := by omega
      have hfin : RC.extensions C.fl (t, b, r) = some f := by
        rw [HSP.out, HK.out.2.2.2.1, List.drop_eq_nil_of_le (by have := H3.out.2.2.2.2.2; omega)]; rfl
      have HF := Lib.hid hfin
      clear hfin
      go_wp2_with (first | ((with_reducible refine at_load_cert ?_); refine wpList_load_cert rfl _ rfl (w.heap.size) ({C with fl := f}) rfl (HK.out.2.1.1) ?_) | ((with_reducible refine at_store_cert ?_); refine wpList_store_cert rfl _ _ rfl (w.heap.size + 1 + 1) CV.zero ({C with fl := f}) rfl rfl (HK.out.2.1.2.1) (CV.fl_one hC f) ?_; intro wz hBz hgz) | fail)
      refine P3.ret rfl HK.out.2.1 hgz hBz rfl rfl ?_
      exact HF.out
end Go.Proofs.Ytmnekhliblkibaa
