/- The contract of the document's extension. (Printed by genrc9.py.) -/
import Derived.Test.YtmnekhliblkibaaRC8
namespace Go.Proofs.Ytmnekhliblkibaa
open Go.RowKit
set_option maxRecDepth 100000
set_option linter.unusedVariables false
set_option linter.unusedSimpArgs false

/-- A certificate with flags told, a name, and whether they are right. -/
def ExtQ (w : World) (C : CV) (o : Option (Fl × List UInt8)) (e : Ending) (w' : World) : Prop :=
  ∃ (q : Bool) (f : Fl) (nm : List UInt8), e = .returned (.tuple #[CV.val {C with fl := f}, .string ⟨nm.toArray⟩, .bool q]) ∧ Below w.heap.size w w' ∧ o = if q = true then some (f, nm) else none
theorem results_cell_tmps {fn : Func} {t u v : Tmp} {ty : TypeId} (h : fn.results = #[.cell t ty, .tmp u, .tmp v]) (tmps : Array Value) (P : Program) (w : World) (ad : Addr) (x : Value) (ha : tmps.getD t undef = .pointer (some ad)) (hl : (loadVar ty ad).run P w = .ok x w) :
    (results fn tmps).run P w = .ok (.tuple #[x, tmps.getD u undef, tmps.getD v undef]) w := by
  have ha' := ha
  simp only [Array.getD_eq_getD_getElem?] at ha'
  simp [results, h, ha', hl, asAddr]
theorem P3.retE {w W wz : World} {C : CV} {f : Fl} {o : Option (Fl × List UInt8)} {q : Bool} {nm : List UInt8} {tmps : Array Value} (h : P3 w W {C with fl := f})
    (hg : W.grownBy wz (some (w.heap.size + 1 + 1))) (hB : Bc wz (w.heap.size + 1 + 1) {C with fl := f}) (h4 : tmps.getD 4 undef = .pointer (some ⟨w.heap.size + 1 + 1, 0, none⟩)) (h5 : tmps.getD 5 undef = .string ⟨nm.toArray⟩) (h6 : tmps.getD 6 undef = .bool q) (ho : o = if q = true then some (f, nm) else none) :
    bodyPost Try.prog Try.f100 (ExtQ w C o) .ret { tmps := tmps, defers := [] } wz := by
  refine bodyPost_ret (results_cell_tmps Try.results100 _ _ _ _ _ h4 (load_cert hB)) rfl ?_
  rw [h5, h6]
  exact ⟨q, f, nm, rfl, below_grow h.2.2.1 hg (by omega) (by have := h.2.2.2; omega), ho⟩

set_option maxHeartbeats 16000000 in
theorem rextension_any (C : CV) (hC : ∀ v ∈ C.cells.toList, v.oneCell' = true) (t : UInt8) (A1 A2 : Option Addr) (n1 c1 n2 c2 : Nat) (b r : List UInt8) (w : World) (h1 : Rd w w.heap.size A1 n1 c1 b) (hn : n1 ≤ 1099511627) :
    Calls Try.prog 100 #[C.val, .agg #[.int .u8 (t.toNat : Int), .slice A1 n1 c1, .slice A2 n2 c2]] w (ExtQ w C (RC.extension C.fl (t, b, r))) := by
  have hP0 := P3.start w C #[.int .u8 (t.toNat : Int), .slice A1 n1 c1, .slice A2 n2 c2]
  have HLB := Lib.hid h1.len
  show Calls _ _ #[.agg C.cells, _] _ _
  have hcl : C.cells.size = 24 := rfl
  go_enter Try.func100, Try.ntmps100
  go_wp2_with fail
  refine (rparts_any t A1 A2 n1 c1 n2 c2 48 b r _ ((((h1.alloc (Nat.le_refl _) _).alloc (by simp) _).alloc (by simp; omega) _).more (by simp; omega)) hn).mono ?_
  rintro e w1 ⟨q, A, n, c, L, rfl, hb1, hE, hnl, hm, ho⟩
  have hP1 := hP0.below hb1
  obtain ⟨l, hl⟩ : ∃ l, l = L.map EI.dat := ⟨_, rfl⟩
  rw [← hl] at hm ho
  have hll : l.length = n := by rw [hl, List.length_map]; exact hnl.symm
  have H1 := Lib.hid (And.intro hP1 (And.intro (hE.mono (lo' := w.heap.size + 1 + 1 + 1) (by simp) (Nat.le_refl _)) (And.intro hm (And.intro ho (And.intro hl hll)))))
  have hs1 : w.heap.size + 1 + 1 + 1 ≤ w1.heap.size := hP1.2.2.2
  clear hP0 hP1 hb1 hE hm ho h1 hnl hl hll
  cases q with
  | false =>
    go_wp2_with (first | ((with_reducible refine at_load_cert ?_); refine wpList_load_cert rfl _ rfl (w.heap.size) (C) rfl (H1.out.1.1) ?_) | ((with_reducible refine at_store_cert ?_); refine wpList_store_cert rfl _ _ rfl (w.heap.size + 1 + 1) CV.zero (C) rfl rfl (H1.out.1.2.1) (hC) ?_; intro wz hBz hgz) | fail)
    refine P3.retE (nm := []) H1.out.1 hgz hBz rfl rfl rfl ?_
    unfold RC.extension; rw [H1.out.2.2.2.1]; rfl
  | true =>
    have hsp0 : RC.extension C.fl (t, b, r) = (Cert.must (decide (2 ≤ n) && decide (n ≤ 3))).bind fun _ =>
        (Cert.must (RC.shape l (n - 1))).bind fun _ => (Der.oid (l.getD 0 El.none_).2.1).bind fun _ =>
          if RC.known (l.getD 0 El.none_).2.1 = true then (Cert.only (l.getD (n - 1) El.none_).2.1).bind fun y => (RC.told C.fl (l.getD 0 El.none_).2.1 y).bind fun g => some (g, (l.getD 0 El.none_).2.1)
          else (Cert.must (decide (n = 2))).bind fun _ => some (C.fl, (l.getD 0 El.none_).2.1) := by
      unfold RC.extension
      rw [H1.out.2.2.2.1]
      simp only [if_true, Option.bind_some, H1.out.2.2.2.2.2]
    have HS0 := Lib.hid hsp0
    clear hsp0
    by_cases hlo : n < 2
    · have hlo' : (n : Int) < 2 := by omega
      have hno : RC.extension C.fl (t, b, r) = none := by rw [HS0.out, must_f (by simp; omega)]; rfl
      have HN := Lib.hid hno
      clear hno
      go_wp2_with (first | ((with_reducible refine at_load_cert ?_); refine wpList_load_cert rfl _ rfl (w.heap.size) (C) rfl (H1.out.1.1) ?_) | ((with_reducible refine at_store_cert ?_); refine wpList_store_cert rfl _ _ rfl (w.heap.size + 1 + 1) CV.zero (C) rfl rfl (H1.out.1.2.1) (hC) ?_; intro wz hBz hgz) | fail)
      refine P3.retE (nm := []) H1.out.1 hgz hBz rfl rfl rfl ?_
      exact HN.out
    by_cases hhi : 3 < n
    · have hhi' : (3 : Int) < n := by omega
      have hlo' : ¬ (n : Int) < 2 := by omega
      have hno : RC.extension C.fl (t, b, r) = none := by rw [HS0.out, must_f (by simp; omega)]; rfl
      have HN := Lib.hid hno
      clear hno
      go_wp2_with (first | ((with_reducible refine at_load_cert ?_); refine wpList_load_cert rfl _ rfl (w.heap.size) (C) rfl (H1.out.1.1) ?_) | ((with_reducible refine at_store_cert ?_); refine wpList_store_cert rfl _ _ rfl (w.heap.size + 1 + 1) CV.zero (C) rfl rfl (H1.out.1.2.1) (hC) ?_; intro wz hBz hgz) | fail)
      refine P3.retE (nm := []) H1.out.1 hgz hBz rfl rfl rfl ?_
      exact HN.out
    have hn23 : n = 2 ∨ n = 3 := by omega
    clear hlo hhi
    rcases hn23 with rfl | rfl
    · -- two parts
      obtain ⟨g, rfl, hg, hg2⟩ := H1.out.2.1.spot_ (by omega)
      obtain ⟨t0, A3, n3, c3, b0, A4, n4, c4, x0, hx0, p0, p1, p2, R0, R1, _⟩ := H1.out.2.1.el H1.out.2.2.2.2.1 (Below.refl w1.heap.size w1) (Nat.le_refl _) 0 0 (by omega) rfl
      obtain ⟨tj, Aj, nj, cj, bj, Ak, nk, ck, xj, hxj, s0, s1, s2, S0, S1, _⟩ := H1.out.2.1.el H1.out.2.2.2.2.1 (Below.refl w1.heap.size w1) (Nat.le_refl _) 1 3 (by omega) rfl
      have hl0 := len_mem H1.out.2.2.1 hx0
      have hlj := len_mem H1.out.2.2.1 hxj
      have hn3 : n3 ≤ 1099511627776 := by have := R0.len; omega
      have hnj : nj ≤ 1099511627 := by have := S0.len; omega
      have hw1 : IntKind.i64.wrap ((2 : Int) - 1) = 1 := IntWalk.i64_in _ (by omega)
      have hsp : RC.extension C.fl (t, b, r) = (Cert.must ((((t0.toNat : Int) == 6) && ((tj.toNat : Int) == 4)) && true)).bind fun _ => (Der.oid b0).bind fun _ =>
          if RC.known b0 = true then (Cert.only bj).bind fun y => (RC.told C.fl b0 y).bind fun g => some (g, b0) else (Cert.must true).bind fun _ => some (C.fl, b0) := by
        rw [HS0.out, must_t (by decide)]
        unfold RC.shape
        simp only [Option.bind_some, Nat.reduceSub, hx0, hxj, decide_true, Bool.true_or]
      have HS := Lib.hid hsp
      have HR := Lib.hid (And.intro R0 S0)
      clear hsp HS0 R0 R1 S0 S1 hx0 hxj hl0 hlj
      by_cases h6 : (t0.toNat : Int) = 6
      · have h6' : ((t0.toNat : Int) != 6) = false := by simp [h6]
        by_cases h4 : (tj.toNat : Int) = 4
        · have h4' : ((tj.toNat : Int) != 4) = false := by simp [h4]
          have hsp2 : RC.extension C.fl (t, b, r) = (Cert.must true).bind fun _ => (Der.oid b0).bind fun _ =>
              if RC.known b0 = true then (Cert.only bj).bind fun y => (RC.told C.fl b0 y).bind fun g => some (g, b0) else (Cert.must true).bind fun _ => some (C.fl, b0) := by
            rw [HS.out, h6, h4]; rfl
          have HS2 := Lib.hid hsp2
          clear h6 h4 hsp2
          go_wp2_with fail
          refine (roid_any A3 n3 c3 b0 _ HR.out.1 hn3).mono ?_
          rintro e w2 ⟨vo, rfl, hb2⟩
          have hP2 := H1.out.1.below hb2
          have f0 : w2.cell? ⟨g, 1, none⟩ = some (.slice A3 n3 c3) := (hb2.cell (p := ⟨g, 1, none⟩) hg).trans p1
          have f1 : w2.cell? ⟨g, 4, none⟩ = some (.slice Aj nj cj) := (hb2.cell (p := ⟨g, 4, none⟩) hg).trans s1
          have hstr := run_string (HR.out.1.up hb2) 9 Try.underlying9
          obtain ⟨oi, hoi⟩ : ∃ oi, (Der.oid b0).isSome = oi := ⟨_, rfl⟩
          rw [hoi]
          have H2 := Lib.hid (And.intro hP2 (And.intro (HR.out.2.up hb2) hoi))
          clear hP2 hb2 hoi p0 p1 p2 s0 s1 s2
          cases oi with
          | false =>
            have hno : Der.oid b0 = none := by have := H2.out.2.2; cases h : Der.oid b0 with | none => rfl | some o => rw [h] at this; cases this
            have HNO := Lib.hid hno
            clear hno
            go_wp2_with (first | ((with_reducible refine at_load_cert ?_); refine wpList_load_cert rfl _ rfl (w.heap.size) (C) rfl (H2.out.1.1) ?_) | ((with_reducible refine at_store_cert ?_); refine wpList_store_cert rfl _ _ rfl (w.heap.size + 1 + 1) CV.zero (C) rfl rfl (H2.out.1.2.1) (hC) ?_; intro wz hBz hgz) | fail)
            refine P3.retE (nm := []) H2.out.1 hgz hBz rfl rfl rfl ?_
            rw [HS2.out, HNO.out]; rfl
          | true =>
            obtain ⟨o, ho⟩ : ∃ o, Der.oid b0 = some o := Option.isSome_iff_exists.1 (by simpa using H2.out.2.2)
            have hsp3 : RC.extension C.fl (t, b, r) = if RC.known b0 = true then (Cert.only bj).bind fun y => (RC.told C.fl b0 y).bind fun g => some (g, b0) else (Cert.must true).bind fun _ => some (C.fl, b0) := by
              rw [HS2.out, ho]; rfl
            have HS3 := Lib.hid hsp3
            clear hsp3 ho
            obtain ⟨k1, hk1⟩ : ∃ k1, (b0 == [85, 29, 19]) = k1 := ⟨_, rfl⟩
            obtain ⟨k2, hk2⟩ : ∃ k2, (b0 == [85, 29, 15]) = k2 := ⟨_, rfl⟩
            obtain ⟨k3, hk3⟩ : ∃ k3, (b0 == [85, 29, 37]) = k3 := ⟨_, rfl⟩
            have hkn : RC.known b0 = (k1 || k2 || k3) := by unfold RC.known; rw [show (b0 == RC.basic) = k1 from hk1, show (b0 == RC.usage) = k2 from hk2, show (b0 == RC.purposes) = k3 from hk3]
            have htd : ∀ y, RC.told C.fl b0 y = if k1 = true then RC.constraints C.fl y else if k2 = true then Cert.usage C.fl y else RC.meant C.fl y := by
              intro y
              unfold RC.told
              have e1 : b0 = RC.basic ↔ k1 = true := by rw [← hk1, beq_iff_eq]; rfl
              have e2 : b0 = RC.usage ↔ k2 = true := by rw [← hk2, beq_iff_eq]; rfl
              simp only [e1, e2]
            have HK := Lib.hid (And.intro hkn htd)
            clear hkn htd
            have hunk : (k1 || k2 || k3) = false → RC.extension C.fl (t, b, r) = some (C.fl, b0) := by
              intro h
              rw [HS3.out, HK.out.1, h]; rfl
            have HU := Lib.hid hunk
            clear hunk
            by_cases hall : (k1 || k2 || k3) = false
            · obtain ⟨⟨rfl, rfl⟩, rfl⟩ : (k1 = false ∧ k2 = false) ∧ k3 = false := by simpa using hall
              clear hall
              go_wp2_with (first | ((with_reducible refine at_load_cert ?_); refine wpList_load_cert rfl _ rfl (w.heap.size) (C) rfl (H2.out.1.1) ?_) | ((with_reducible refine at_store_cert ?_); refine wpList_store_cert rfl _ _ rfl (w.heap.size + 1 + 1) CV.zero (C) rfl rfl (H2.out.1.2.1) (hC) ?_; intro wz hBz hgz) | fail)
              refine P3.retE (nm := b0) H2.out.1 hgz hBz rfl rfl rfl ?_
              exact HU.out rfl
            · have hsp4 : RC.extension C.fl (t, b, r) = (Cert.only bj).bind fun y => (RC.told C.fl b0 y).bind fun g => some (g, b0) := by
                rw [HS3.out, HK.out.1, if_pos (by simpa only [Bool.not_eq_false] using hall)]
              have HS4 := Lib.hid hsp4
              clear hsp4
              have hk : (k1 = true) ∨ (k1 = false ∧ k2 = true) ∨ (k1 = false ∧ k2 = false ∧ k3 = true) := by cases k1 <;> cases k2 <;> cases k3 <;> simp_all
              clear hall
              have hcall : ∀ W : World, Rd W W.heap.size Aj nj cj bj → Calls Try.prog 47 #[.slice Aj nj cj] W (OnlyQ W nj bj) := fun W hW => ronly_any Aj nj cj bj W hW (by omega)
              have HC := Lib.hid hcall
              clear hcall
              rcases hk with rfl | ⟨rfl, rfl⟩ | ⟨rfl, rfl, rfl⟩
              · go_wp2_with fail
                refine (HC.out _ H2.out.2.1).mono ?_
                rintro e w3 ⟨q3, t3, b3, x3, A8, n8, c8, A9, n9, c9, rfl, hb3, hO3, hl3, hl3', ho3⟩
                have hP3 := H2.out.1.below (hb3.alloc hb3.size (.cells #[.int .u8 (t3.toNat : Int), .slice A8 n8 c8, .slice A9 n9 c9] 50))
                have hr3 := hO3.rows
                simp only [List.mem_cons, List.not_mem_nil, or_false, forall_eq_or_imp, forall_eq] at hr3
                have hl8 := ownB_len hr3.1
                have hR3 := (Rd.of_own hr3.1).alloc (Nat.le_refl _) (.cells #[.int .u8 (t3.toNat : Int), .slice A8 n8 c8, .slice A9 n9 c9] 50)
                have hY := Blk.new w3 50 #[.int .u8 (t3.toNat : Int), .slice A8 n8 c8, .slice A9 n9 c9]
                have y0 := hY.cell 0
                have y1 := hY.cell 1
                have y2 := hY.cell 2
                simp only [List.getElem?_toArray, List.getElem?_cons_zero, List.getElem?_cons_succ] at y0 y1 y2
                obtain ⟨w4, hw4⟩ : ∃ w4, w3.alloc (.cells #[.int .u8 (t3.toNat : Int), .slice A8 n8 c8, .slice A9 n9 c9] 50) = w4 := ⟨_, rfl⟩
                have hs4 : w4.heap.size = w3.heap.size + 1 := by rw [← hw4]; simp
                rw [hw4] at hP3 hR3 y0 y1 y2
                have H3 := Lib.hid (And.intro hP3 (And.intro (hR3.more (B' := w4.heap.size) (by omega)) ho3))
                have HW := Lib.hid hw4
                clear hP3 hR3 ho3 hb3 hO3 hr3 hY f0 f1 hstr hw4
                cases q3 with
                | false =>
                  go_upto_region 11 with fail
                  rw [HW.out]
                  have hno : RC.extension C.fl (t, b, r) = none := by rw [HS4.out, H3.out.2.2]; rfl
                  have HN := Lib.hid hno
                  clear hno
                  go_wp2_with (first | ((with_reducible refine at_load_cert ?_); refine wpList_load_cert rfl _ rfl (w.heap.size) (C) rfl (H3.out.1.1) ?_) | ((with_reducible refine at_store_cert ?_); refine wpList_store_cert rfl _ _ rfl (w.heap.size + 1 + 1) CV.zero (C) rfl rfl (H3.out.1.2.1) (hC) ?_; intro wz hBz hgz) | fail)
                  refine P3.retE (nm := b0) H3.out.1 hgz hBz rfl rfl rfl ?_
                  exact HN.out
                | true =>
                  have hsp5 : RC.extension C.fl (t, b, r) = (RC.constraints C.fl (t3, b3, x3)).bind fun g => some (g, b0) := by
                    rw [HS4.out, H3.out.2.2]
                    simp only [if_true, Option.bind_some, HK.out.2]
                    try rfl
                  have HS5 := Lib.hid hsp5
                  clear hsp5
                  go_upto_region 11 with fail
                  rw [HW.out]
                  go_wp2_with (first | ((with_reducible refine at_load_cert ?_); refine wpList_load_cert rfl _ rfl (w.heap.size) C rfl (H3.out.1.1) ?_) | fail)
                  refine (rconstraints_any C hC t3 A8 A9 n8 c8 n9 c9 b3 x3 _ H3.out.2.1 (by omega)).mono ?_
                  rintro e w5 ⟨q5, f, rfl, hb5, ho5⟩
                  have H5 := Lib.hid (And.intro (H3.out.1.below hb5) ho5)
                  have hext : RC.extension C.fl (t, b, r) = if q5 = true then some (f, b0) else none := by
                    rw [HS5.out, ho5]; cases q5 <;> rfl
                  have HX := Lib.hid hext
                  clear hb5 ho5 hext y0 y1 y2
                  go_upto_region 19 with (first | ((with_reducible refine at_store_cert ?_); refine wpList_store_cert rfl _ _ rfl (w.heap.size) C ({C with fl := f}) rfl rfl (H5.out.1.1) (CV.fl_one hC _) ?_; intro w6 hB6 hg6) | fail)
                  have H6 := Lib.hid (H5.out.1.grown hg6 hB6)
                  clear hB6 hg6
                  go_wp2_with (first | ((with_reducible refine at_load_cert ?_); refine wpList_load_cert rfl _ rfl (w.heap.size) ({C with fl := f}) rfl (H6.out.1) ?_) | ((with_reducible refine at_store_cert ?_); refine wpList_store_cert rfl _ _ rfl (w.heap.size + 1 + 1) CV.zero ({C with fl := f}) rfl rfl (H6.out.2.1) (CV.fl_one hC _) ?_; intro wz hBz hgz) | fail)
                  refine P3.retE (nm := b0) H6.out hgz hBz rfl rfl rfl ?_
                  exact HX.out
              · go_wp2_with fail
                refine (HC.out _ H2.out.2.1).mono ?_
                rintro e w3 ⟨q3, t3, b3, x3, A8, n8, c8, A9, n9, c9, rfl, hb3, hO3, hl3, hl3', ho3⟩
                have hP3 := H2.out.1.below (hb3.alloc hb3.size (.cells #[.int .u8 (t3.toNat : Int), .slice A8 n8 c8, .slice A9 n9 c9] 50))
                have hr3 := hO3.rows
                simp only [List.mem_cons, List.not_mem_nil, or_false, forall_eq_or_imp, forall_eq] at hr3
                have hl8 := ownB_len hr3.1
                have hR3 := (Rd.of_own hr3.1).alloc (Nat.le_refl _) (.cells #[.int .u8 (t3.toNat : Int), .slice A8 n8 c8, .slice A9 n9 c9] 50)
                have hY := Blk.new w3 50 #[.int .u8 (t3.toNat : Int), .slice A8 n8 c8, .slice A9 n9 c9]
                have y0 := hY.cell 0
                have y1 := hY.cell 1
                have y2 := hY.cell 2
                simp only [List.getElem?_toArray, List.getElem?_cons_zero, List.getElem?_cons_succ] at y0 y1 y2
                obtain ⟨w4, hw4⟩ : ∃ w4, w3.alloc (.cells #[.int .u8 (t3.toNat : Int), .slice A8 n8 c8, .slice A9 n9 c9] 50) = w4 := ⟨_, rfl⟩
                have hs4 : w4.heap.size = w3.heap.size + 1 := by rw [← hw4]; simp
                rw [hw4] at hP3 hR3 y0 y1 y2
                have H3 := Lib.hid (And.intro hP3 (And.intro (hR3.more (B' := w4.heap.size) (by omega)) ho3))
                have HW := Lib.hid hw4
                clear hP3 hR3 ho3 hb3 hO3 hr3 hY f0 f1 hstr hw4
                cases q3 with
                | false =>
                  go_upto_region 11 with fail
                  rw [HW.out]
                  have hno : RC.extension C.fl (t, b, r) = none := by rw [HS4.out, H3.out.2.2]; rfl
                  have HN := Lib.hid hno
                  clear hno
                  go_wp2_with (first | ((with_reducible refine at_load_cert ?_); refine wpList_load_cert rfl _ rfl (w.heap.size) (C) rfl (H3.out.1.1) ?_) | ((with_reducible refine at_store_cert ?_); refine wpList_store_cert rfl _ _ rfl (w.heap.size + 1 + 1) CV.zero (C) rfl rfl (H3.out.1.2.1) (hC) ?_; intro wz hBz hgz) | fail)
                  refine P3.retE (nm := b0) H3.out.1 hgz hBz rfl rfl rfl ?_
                  exact HN.out
                | true =>
                  have hsp5 : RC.extension C.fl (t, b, r) = (Cert.usage C.fl (t3, b3, x3)).bind fun g => some (g, b0) := by
                    rw [HS4.out, H3.out.2.2]
                    simp only [if_true, Option.bind_some, HK.out.2]
                    try rfl
                  have HS5 := Lib.hid hsp5
                  clear hsp5
                  go_upto_region 11 with fail
                  rw [HW.out]
                  go_wp2_with (first | ((with_reducible refine at_load_cert ?_); refine wpList_load_cert rfl _ rfl (w.heap.size) C rfl (H3.out.1.1) ?_) | fail)
                  refine (rused_any C hC t3 A8 A9 n8 c8 n9 c9 b3 x3 _ H3.out.2.1 (by omega)).mono ?_
                  rintro e w5 ⟨q5, f, rfl, hb5, ho5⟩
                  have H5 := Lib.hid (And.intro (H3.out.1.below hb5) ho5)
                  have hext : RC.extension C.fl (t, b, r) = if q5 = true then some (f, b0) else none := by
                    rw [HS5.out, ho5]; cases q5 <;> rfl
                  have HX := Lib.hid hext
                  clear hb5 ho5 hext y0 y1 y2
                  go_upto_region 19 with (first | ((with_reducible refine at_store_cert ?_); refine wpList_store_cert rfl _ _ rfl (w.heap.size) C ({C with fl := f}) rfl rfl (H5.out.1.1) (CV.fl_one hC _) ?_; intro w6 hB6 hg6) | fail)
                  have H6 := Lib.hid (H5.out.1.grown hg6 hB6)
                  clear hB6 hg6
                  go_wp2_with (first | ((with_reducible refine at_load_cert ?_); refine wpList_load_cert rfl _ rfl (w.heap.size) ({C with fl := f}) rfl (H6.out.1) ?_) | ((with_reducible refine at_store_cert ?_); refine wpList_store_cert rfl _ _ rfl (w.heap.size + 1 + 1) CV.zero ({C with fl := f}) rfl rfl (H6.out.2.1) (CV.fl_one hC _) ?_; intro wz hBz hgz) | fail)
                  refine P3.retE (nm := b0) H6.out hgz hBz rfl rfl rfl ?_
                  exact HX.out
              · go_wp2_with fail
                refine (HC.out _ H2.out.2.1).mono ?_
                rintro e w3 ⟨q3, t3, b3, x3, A8, n8, c8, A9, n9, c9, rfl, hb3, hO3, hl3, hl3', ho3⟩
                have hP3 := H2.out.1.below (hb3.alloc hb3.size (.cells #[.int .u8 (t3.toNat : Int), .slice A8 n8 c8, .slice A9 n9 c9] 50))
                have hr3 := hO3.rows
                simp only [List.mem_cons, List.not_mem_nil, or_false, forall_eq_or_imp, forall_eq] at hr3
                have hl8 := ownB_len hr3.1
                have hR3 := (Rd.of_own hr3.1).alloc (Nat.le_refl _) (.cells #[.int .u8 (t3.toNat : Int), .slice A8 n8 c8, .slice A9 n9 c9] 50)
                have hY := Blk.new w3 50 #[.int .u8 (t3.toNat : Int), .slice A8 n8 c8, .slice A9 n9 c9]
                have y0 := hY.cell 0
                have y1 := hY.cell 1
                have y2 := hY.cell 2
                simp only [List.getElem?_toArray, List.getElem?_cons_zero, List.getElem?_cons_succ] at y0 y1 y2
                obtain ⟨w4, hw4⟩ : ∃ w4, w3.alloc (.cells #[.int .u8 (t3.toNat : Int), .slice A8 n8 c8, .slice A9 n9 c9] 50) = w4 := ⟨_, rfl⟩
                have hs4 : w4.heap.size = w3.heap.size + 1 := by rw [← hw4]; simp
                rw [hw4] at hP3 hR3 y0 y1 y2
                have H3 := Lib.hid (And.intro hP3 (And.intro (hR3.more (B' := w4.heap.size) (by omega)) ho3))
                have HW := Lib.hid hw4
                clear hP3 hR3 ho3 hb3 hO3 hr3 hY f0 f1 hstr hw4
                cases q3 with
                | false =>
                  go_upto_region 11 with fail
                  rw [HW.out]
                  have hno : RC.extension C.fl (t, b, r) = none := by rw [HS4.out, H3.out.2.2]; rfl
                  have HN := Lib.hid hno
                  clear hno
                  go_wp2_with (first | ((with_reducible refine at_load_cert ?_); refine wpList_load_cert rfl _ rfl (w.heap.size) (C) rfl (H3.out.1.1) ?_) | ((with_reducible refine at_store_cert ?_); refine wpList_store_cert rfl _ _ rfl (w.heap.size + 1 + 1) CV.zero (C) rfl rfl (H3.out.1.2.1) (hC) ?_; intro wz hBz hgz) | fail)
                  refine P3.retE (nm := b0) H3.out.1 hgz hBz rfl rfl rfl ?_
                  exact HN.out
                | true =>
                  have hsp5 : RC.extension C.fl (t, b, r) = (RC.meant C.fl (t3, b3, x3)).bind fun g => some (g, b0) := by
                    rw [HS4.out, H3.out.2.2]
                    simp only [if_true, Option.bind_some, HK.out.2]
                    try rfl
                  have HS5 := Lib.hid hsp5
                  clear hsp5
                  go_upto_region 11 with fail
                  rw [HW.out]
                  go_wp2_with (first | ((with_reducible refine at_load_cert ?_); refine wpList_load_cert rfl _ rfl (w.heap.size) C rfl (H3.out.1.1) ?_) | fail)
                  refine (rmeant_any C hC t3 A8 A9 n8 c8 n9 c9 b3 x3 _ H3.out.2.1 (by omega)).mono ?_
                  rintro e w5 ⟨q5, f, rfl, hb5, ho5⟩
                  have H5 := Lib.hid (And.intro (H3.out.1.below hb5) ho5)
                  have hext : RC.extension C.fl (t, b, r) = if q5 = true then some (f, b0) else none := by
                    rw [HS5.out, ho5]; cases q5 <;> rfl
                  have HX := Lib.hid hext
                  clear hb5 ho5 hext y0 y1 y2
                  go_upto_region 19 with (first | ((with_reducible refine at_store_cert ?_); refine wpList_store_cert rfl _ _ rfl (w.heap.size) C ({C with fl := f}) rfl rfl (H5.out.1.1) (CV.fl_one hC _) ?_; intro w6 hB6 hg6) | fail)
                  have H6 := Lib.hid (H5.out.1.grown hg6 hB6)
                  clear hB6 hg6
                  go_wp2_with (first | ((with_reducible refine at_load_cert ?_); refine wpList_load_cert rfl _ rfl (w.heap.size) ({C with fl := f}) rfl (H6.out.1) ?_) | ((with_reducible refine at_store_cert ?_); refine wpList_store_cert rfl _ _ rfl (w.heap.size + 1 + 1) CV.zero ({C with fl := f}) rfl rfl (H6.out.2.1) (CV.fl_one hC _) ?_; intro wz hBz hgz) | fail)
                  refine P3.retE (nm := b0) H6.out hgz hBz rfl rfl rfl ?_
                  exact HX.out
        · have h4' : ((tj.toNat : Int) != 4) = true := by simp [h4]
          have hno : RC.extension C.fl (t, b, r) = none := by rw [HS.out, must_f (by simp [h4])]; rfl
          have HN := Lib.hid hno
          clear h6 h4 hno
          go_wp2_with (first | ((with_reducible refine at_load_cert ?_); refine wpList_load_cert rfl _ rfl (w.heap.size) (C) rfl (H1.out.1.1) ?_) | ((with_reducible refine at_store_cert ?_); refine wpList_store_cert rfl _ _ rfl (w.heap.size + 1 + 1) CV.zero (C) rfl rfl (H1.out.1.2.1) (hC) ?_; intro wz hBz hgz) | fail)
          refine P3.retE (nm := []) H1.out.1 hgz hBz rfl rfl rfl ?_
          exact HN.out
      · have h6' : ((t0.toNat : Int) != 6) = true := by simp [h6]
        have hno : RC.extension C.fl (t, b, r) = none := by rw [HS.out, must_f (by simp [h6])]; rfl
        have HN := Lib.hid hno
        clear h6 hno
        go_wp2_with (first | ((with_reducible refine at_load_cert ?_); refine wpList_load_cert rfl _ rfl (w.heap.size) (C) rfl (H1.out.1.1) ?_) | ((with_reducible refine at_store_cert ?_); refine wpList_store_cert rfl _ _ rfl (w.heap.size + 1 + 1) CV.zero (C) rfl rfl (H1.out.1.2.1) (hC) ?_; intro wz hBz hgz) | fail)
        refine P3.retE (nm := []) H1.out.1 hgz hBz rfl rfl rfl ?_
        exact HN.out
    · -- three parts
      obtain ⟨g, rfl, hg, hg2⟩ := H1.out.2.1.spot_ (by omega)
      obtain ⟨t0, A3, n3, c3, b0, A4, n4, c4, x0, hx0, p0, p1, p2, R0, R1, _⟩ := H1.out.2.1.el H1.out.2.2.2.2.1 (Below.refl w1.heap.size w1) (Nat.le_refl _) 0 0 (by omega) rfl
      obtain ⟨tj, Aj, nj, cj, bj, Ak, nk, ck, xj, hxj, s0, s1, s2, S0, S1, _⟩ := H1.out.2.1.el H1.out.2.2.2.2.1 (Below.refl w1.heap.size w1) (Nat.le_refl _) 2 6 (by omega) rfl
      obtain ⟨t1, A5, n5, c5, b1, A6, n6, c6, x1, hx1, v0, v1, v2, V0, V1, _⟩ := H1.out.2.1.el H1.out.2.2.2.2.1 (Below.refl w1.heap.size w1) (Nat.le_refl _) 1 3 (by omega) rfl
      have hstr1 := run_string V1 9 Try.underlying9
      obtain ⟨y1, hy1⟩ : ∃ y1, (x1 == [1, 1, 255]) = y1 := ⟨_, rfl⟩
      have hl0 := len_mem H1.out.2.2.1 hx0
      have hlj := len_mem H1.out.2.2.1 hxj
      have hn3 : n3 ≤ 1099511627776 := by have := R0.len; omega
      have hnj : nj ≤ 1099511627 := by have := S0.len; omega
      have hw1 : IntKind.i64.wrap ((3 : Int) - 1) = 2 := IntWalk.i64_in _ (by omega)
      have hsp : RC.extension C.fl (t, b, r) = (Cert.must ((((t0.toNat : Int) == 6) && ((tj.toNat : Int) == 4)) && y1)).bind fun _ => (Der.oid b0).bind fun _ =>
          if RC.known b0 = true then (Cert.only bj).bind fun y => (RC.told C.fl b0 y).bind fun g => some (g, b0) else (Cert.must false).bind fun _ => some (C.fl, b0) := by
        rw [HS0.out, must_t (by decide)]
        unfold RC.shape
        simp only [Option.bind_some, Nat.reduceSub, hx0, hxj, hx1, hy1, Nat.reduceEqDiff, decide_false, Bool.false_or]
      have HS := Lib.hid hsp
      have HR := Lib.hid (And.intro R0 S0)
      clear hsp HS0 R0 R1 S0 S1 hx0 hxj hl0 hlj hx1 V0 V1
      by_cases h6 : (t0.toNat : Int) = 6
      · have h6' : ((t0.toNat : Int) != 6) = false := by simp [h6]
        by_cases h4 : (tj.toNat : Int) = 4
        · have h4' : ((tj.toNat : Int) != 4) = false := by simp [h4]
          have hsp2 : RC.extension C.fl (t, b, r) = (Cert.must y1).bind fun _ => (Der.oid b0).bind fun _ =>
              if RC.known b0 = true then (Cert.only bj).bind fun y => (RC.told C.fl b0 y).bind fun g => some (g, b0) else (Cert.must false).bind fun _ => some (C.fl, b0) := by
            rw [HS.out, h6, h4]; rfl
          have HS2 := Lib.hid hsp2
          clear h6 h4 hsp2
          cases y1 with
          | false =>
            go_wp2_with (first | ((with_reducible refine at_load_cert ?_); refine wpList_load_cert rfl _ rfl (w.heap.size) (C) rfl (H1.out.1.1) ?_) | ((with_reducible refine at_store_cert ?_); refine wpList_store_cert rfl _ _ rfl (w.heap.size + 1 + 1) CV.zero (C) rfl rfl (H1.out.1.2.1) (hC) ?_; intro wz hBz hgz) | fail)
            refine P3.retE (nm := []) H1.out.1 hgz hBz rfl rfl rfl ?_
            rw [HS2.out]; rfl
          | true =>
            go_wp2_with fail
            refine (roid_any A3 n3 c3 b0 _ HR.out.1 hn3).mono ?_
            rintro e w2 ⟨vo, rfl, hb2⟩
            have hP2 := H1.out.1.below hb2
            have f0 : w2.cell? ⟨g, 1, none⟩ = some (.slice A3 n3 c3) := (hb2.cell (p := ⟨g, 1, none⟩) hg).trans p1
            have f1 : w2.cell? ⟨g, 7, none⟩ = some (.slice Aj nj cj) := (hb2.cell (p := ⟨g, 7, none⟩) hg).trans s1
            have hstr := run_string (HR.out.1.up hb2) 9 Try.underlying9
            obtain ⟨oi, hoi⟩ : ∃ oi, (Der.oid b0).isSome = oi := ⟨_, rfl⟩
            rw [hoi]
            have H2 := Lib.hid (And.intro hP2 (And.intro (HR.out.2.up hb2) hoi))
            clear hP2 hb2 hoi p0 p1 p2 s0 s1 s2 v0 v1 v2 hstr1
            cases oi with
            | false =>
              have hno : Der.oid b0 = none := by have := H2.out.2.2; cases h : Der.oid b0 with | none => rfl | some o => rw [h] at this; cases this
              have HNO := Lib.hid hno
              clear hno
              go_wp2_with (first | ((with_reducible refine at_load_cert ?_); refine wpList_load_cert rfl _ rfl (w.heap.size) (C) rfl (H2.out.1.1) ?_) | ((with_reducible refine at_store_cert ?_); refine wpList_store_cert rfl _ _ rfl (w.heap.size + 1 + 1) CV.zero (C) rfl rfl (H2.out.1.2.1) (hC) ?_; intro wz hBz hgz) | fail)
              refine P3.retE (nm := []) H2.out.1 hgz hBz rfl rfl rfl ?_
              rw [HS2.out, HNO.out]; rfl
            | true =>
              obtain ⟨o, ho⟩ : ∃ o, Der.oid b0 = some o := Option.isSome_iff_exists.1 (by simpa using H2.out.2.2)
              have hsp3 : RC.extension C.fl (t, b, r) = if RC.known b0 = true then (Cert.only bj).bind fun y => (RC.told C.fl b0 y).bind fun g => some (g, b0) else (Cert.must false).bind fun _ => some (C.fl, b0) := by
                rw [HS2.out, ho]; rfl
              have HS3 := Lib.hid hsp3
              clear hsp3 ho
              obtain ⟨k1, hk1⟩ : ∃ k1, (b0 == [85, 29, 19]) = k1 := ⟨_, rfl⟩
              obtain ⟨k2, hk2⟩ : ∃ k2, (b0 == [85, 29, 15]) = k2 := ⟨_, rfl⟩
              obtain ⟨k3, hk3⟩ : ∃ k3, (b0 == [85, 29, 37]) = k3 := ⟨_, rfl⟩
              have hkn : RC.known b0 = (k1 || k2 || k3) := by unfold RC.known; rw [show (b0 == RC.basic) = k1 from hk1, show (b0 == RC.usage) = k2 from hk2, show (b0 == RC.purposes) = k3 from hk3]
              have htd : ∀ y, RC.told C.fl b0 y = if k1 = true then RC.constraints C.fl y else if k2 = true then Cert.usage C.fl y else RC.meant C.fl y := by
                intro y
                unfold RC.told
                have e1 : b0 = RC.basic ↔ k1 = true := by rw [← hk1, beq_iff_eq]; rfl
                have e2 : b0 = RC.usage ↔ k2 = true := by rw [← hk2, beq_iff_eq]; rfl
                simp only [e1, e2]
              have HK := Lib.hid (And.intro hkn htd)
              clear hkn htd
              have hunk : (k1 || k2 || k3) = false → RC.extension C.fl (t, b, r) = none := by
                intro h
                rw [HS3.out, HK.out.1, h]; rfl
              have HU := Lib.hid hunk
              clear hunk
              by_cases hall : (k1 || k2 || k3) = false
              · obtain ⟨⟨rfl, rfl⟩, rfl⟩ : (k1 = false ∧ k2 = false) ∧ k3 = false := by simpa using hall
                clear hall
                go_wp2_with (first | ((with_reducible refine at_load_cert ?_); refine wpList_load_cert rfl _ rfl (w.heap.size) (C) rfl (H2.out.1.1) ?_) | ((with_reducible refine at_store_cert ?_); refine wpList_store_cert rfl _ _ rfl (w.heap.size + 1 + 1) CV.zero (C) rfl rfl (H2.out.1.2.1) (hC) ?_; intro wz hBz hgz) | fail)
                refine P3.retE (nm := b0) H2.out.1 hgz hBz rfl rfl rfl ?_
                exact HU.out rfl
              · have hsp4 : RC.extension C.fl (t, b, r) = (Cert.only bj).bind fun y => (RC.told C.fl b0 y).bind fun g => some (g, b0) := by
                  rw [HS3.out, HK.out.1, if_pos (by simpa only [Bool.not_eq_false] using hall)]
                have HS4 := Lib.hid hsp4
                clear hsp4
                have hk : (k1 = true) ∨ (k1 = false ∧ k2 = true) ∨ (k1 = false ∧ k2 = false ∧ k3 = true) := by cases k1 <;> cases k2 <;> cases k3 <;> simp_all
                clear hall
                have hcall : ∀ W : World, Rd W W.heap.size Aj nj cj bj → Calls Try.prog 47 #[.slice Aj nj cj] W (OnlyQ W nj bj) := fun W hW => ronly_any Aj nj cj bj W hW (by omega)
                have HC := Lib.hid hcall
                clear hcall
                rcases hk with rfl | ⟨rfl, rfl⟩ | ⟨rfl, rfl, rfl⟩
                · go_wp2_with fail
                  refine (HC.out _ H2.out.2.1).mono ?_
                  rintro e w3 ⟨q3, t3, b3, x3, A8, n8, c8, A9, n9, c9, rfl, hb3, hO3, hl3, hl3', ho3⟩
                  have hP3 := H2.out.1.below (hb3.alloc hb3.size (.cells #[.int .u8 (t3.toNat : Int), .slice A8 n8 c8, .slice A9 n9 c9] 50))
                  have hr3 := hO3.rows
                  simp only [List.mem_cons, List.not_mem_nil, or_false, forall_eq_or_imp, forall_eq] at hr3
                  have hl8 := ownB_len hr3.1
                  have hR3 := (Rd.of_own hr3.1).alloc (Nat.le_refl _) (.cells #[.int .u8 (t3.toNat : Int), .slice A8 n8 c8, .slice A9 n9 c9] 50)
                  have hY := Blk.new w3 50 #[.int .u8 (t3.toNat : Int), .slice A8 n8 c8, .slice A9 n9 c9]
                  have y0 := hY.cell 0
                  have y1 := hY.cell 1
                  have y2 := hY.cell 2
                  simp only [List.getElem?_toArray, List.getElem?_cons_zero, List.getElem?_cons_succ] at y0 y1 y2
                  obtain ⟨w4, hw4⟩ : ∃ w4, w3.alloc (.cells #[.int .u8 (t3.toNat : Int), .slice A8 n8 c8, .slice A9 n9 c9] 50) = w4 := ⟨_, rfl⟩
                  have hs4 : w4.heap.size = w3.heap.size + 1 := by rw [← hw4]; simp
                  rw [hw4] at hP3 hR3 y0 y1 y2
                  have H3 := Lib.hid (And.intro hP3 (And.intro (hR3.more (B' := w4.heap.size) (by omega)) ho3))
                  have HW := Lib.hid hw4
                  clear hP3 hR3 ho3 hb3 hO3 hr3 hY f0 f1 hstr hw4
                  cases q3 with
                  | false =>
                    go_upto_region 11 with fail
                    rw [HW.out]
                    have hno : RC.extension C.fl (t, b, r) = none := by rw [HS4.out, H3.out.2.2]; rfl
                    have HN := Lib.hid hno
                    clear hno
                    go_wp2_with (first | ((with_reducible refine at_load_cert ?_); refine wpList_load_cert rfl _ rfl (w.heap.size) (C) rfl (H3.out.1.1) ?_) | ((with_reducible refine at_store_cert ?_); refine wpList_store_cert rfl _ _ rfl (w.heap.size + 1 + 1) CV.zero (C) rfl rfl (H3.out.1.2.1) (hC) ?_; intro wz hBz hgz) | fail)
                    refine P3.retE (nm := b0) H3.out.1 hgz hBz rfl rfl rfl ?_
                    exact HN.out
                  | true =>
                    have hsp5 : RC.extension C.fl (t, b, r) = (RC.constraints C.fl (t3, b3, x3)).bind fun g => some (g, b0) := by
                      rw [HS4.out, H3.out.2.2]
                      simp only [if_true, Option.bind_some, HK.out.2]
                      try rfl
                    have HS5 := Lib.hid hsp5
                    clear hsp5
                    go_upto_region 11 with fail
                    rw [HW.out]
                    go_wp2_with (first | ((with_reducible refine at_load_cert ?_); refine wpList_load_cert rfl _ rfl (w.heap.size) C rfl (H3.out.1.1) ?_) | fail)
                    refine (rconstraints_any C hC t3 A8 A9 n8 c8 n9 c9 b3 x3 _ H3.out.2.1 (by omega)).mono ?_
                    rintro e w5 ⟨q5, f, rfl, hb5, ho5⟩
                    have H5 := Lib.hid (And.intro (H3.out.1.below hb5) ho5)
                    have hext : RC.extension C.fl (t, b, r) = if q5 = true then some (f, b0) else none := by
                      rw [HS5.out, ho5]; cases q5 <;> rfl
                    have HX := Lib.hid hext
                    clear hb5 ho5 hext y0 y1 y2
                    go_upto_region 19 with (first | ((with_reducible refine at_store_cert ?_); refine wpList_store_cert rfl _ _ rfl (w.heap.size) C ({C with fl := f}) rfl rfl (H5.out.1.1) (CV.fl_one hC _) ?_; intro w6 hB6 hg6) | fail)
                    have H6 := Lib.hid (H5.out.1.grown hg6 hB6)
                    clear hB6 hg6
                    go_wp2_with (first | ((with_reducible refine at_load_cert ?_); refine wpList_load_cert rfl _ rfl (w.heap.size) ({C with fl := f}) rfl (H6.out.1) ?_) | ((with_reducible refine at_store_cert ?_); refine wpList_store_cert rfl _ _ rfl (w.heap.size + 1 + 1) CV.zero ({C with fl := f}) rfl rfl (H6.out.2.1) (CV.fl_one hC _) ?_; intro wz hBz hgz) | fail)
                    refine P3.retE (nm := b0) H6.out hgz hBz rfl rfl rfl ?_
                    exact HX.out
                · go_wp2_with fail
                  refine (HC.out _ H2.out.2.1).mono ?_
                  rintro e w3 ⟨q3, t3, b3, x3, A8, n8, c8, A9, n9, c9, rfl, hb3, hO3, hl3, hl3', ho3⟩
                  have hP3 := H2.out.1.below (hb3.alloc hb3.size (.cells #[.int .u8 (t3.toNat : Int), .slice A8 n8 c8, .slice A9 n9 c9] 50))
                  have hr3 := hO3.rows
                  simp only [List.mem_cons, List.not_mem_nil, or_false, forall_eq_or_imp, forall_eq] at hr3
                  have hl8 := ownB_len hr3.1
                  have hR3 := (Rd.of_own hr3.1).alloc (Nat.le_refl _) (.cells #[.int .u8 (t3.toNat : Int), .slice A8 n8 c8, .slice A9 n9 c9] 50)
                  have hY := Blk.new w3 50 #[.int .u8 (t3.toNat : Int), .slice A8 n8 c8, .slice A9 n9 c9]
                  have y0 := hY.cell 0
                  have y1 := hY.cell 1
                  have y2 := hY.cell 2
                  simp only [List.getElem?_toArray, List.getElem?_cons_zero, List.getElem?_cons_succ] at y0 y1 y2
                  obtain ⟨w4, hw4⟩ : ∃ w4, w3.alloc (.cells #[.int .u8 (t3.toNat : Int), .slice A8 n8 c8, .slice A9 n9 c9] 50) = w4 := ⟨_, rfl⟩
                  have hs4 : w4.heap.size = w3.heap.size + 1 := by rw [← hw4]; simp
                  rw [hw4] at hP3 hR3 y0 y1 y2
                  have H3 := Lib.hid (And.intro hP3 (And.intro (hR3.more (B' := w4.heap.size) (by omega)) ho3))
                  have HW := Lib.hid hw4
                  clear hP3 hR3 ho3 hb3 hO3 hr3 hY f0 f1 hstr hw4
                  cases q3 with
                  | false =>
                    go_upto_region 11 with fail
                    rw [HW.out]
                    have hno : RC.extension C.fl (t, b, r) = none := by rw [HS4.out, H3.out.2.2]; rfl
                    have HN := Lib.hid hno
                    clear hno
                    go_wp2_with (first | ((with_reducible refine at_load_cert ?_); refine wpList_load_cert rfl _ rfl (w.heap.size) (C) rfl (H3.out.1.1) ?_) | ((with_reducible refine at_store_cert ?_); refine wpList_store_cert rfl _ _ rfl (w.heap.size + 1 + 1) CV.zero (C) rfl rfl (H3.out.1.2.1) (hC) ?_; intro wz hBz hgz) | fail)
                    refine P3.retE (nm := b0) H3.out.1 hgz hBz rfl rfl rfl ?_
                    exact HN.out
                  | true =>
                    have hsp5 : RC.extension C.fl (t, b, r) = (Cert.usage C.fl (t3, b3, x3)).bind fun g => some (g, b0) := by
                      rw [HS4.out, H3.out.2.2]
                      simp only [if_true, Option.bind_some, HK.out.2]
                      try rfl
                    have HS5 := Lib.hid hsp5
                    clear hsp5
                    go_upto_region 11 with fail
                    rw [HW.out]
                    go_wp2_with (first | ((with_reducible refine at_load_cert ?_); refine wpList_load_cert rfl _ rfl (w.heap.size) C rfl (H3.out.1.1) ?_) | fail)
                    refine (rused_any C hC t3 A8 A9 n8 c8 n9 c9 b3 x3 _ H3.out.2.1 (by omega)).mono ?_
                    rintro e w5 ⟨q5, f, rfl, hb5, ho5⟩
                    have H5 := Lib.hid (And.intro (H3.out.1.below hb5) ho5)
                    have hext : RC.extension C.fl (t, b, r) = if q5 = true then some (f, b0) else none := by
                      rw [HS5.out, ho5]; cases q5 <;> rfl
                    have HX := Lib.hid hext
                    clear hb5 ho5 hext y0 y1 y2
                    go_upto_region 19 with (first | ((with_reducible refine at_store_cert ?_); refine wpList_store_cert rfl _ _ rfl (w.heap.size) C ({C with fl := f}) rfl rfl (H5.out.1.1) (CV.fl_one hC _) ?_; intro w6 hB6 hg6) | fail)
                    have H6 := Lib.hid (H5.out.1.grown hg6 hB6)
                    clear hB6 hg6
                    go_wp2_with (first | ((with_reducible refine at_load_cert ?_); refine wpList_load_cert rfl _ rfl (w.heap.size) ({C with fl := f}) rfl (H6.out.1) ?_) | ((with_reducible refine at_store_cert ?_); refine wpList_store_cert rfl _ _ rfl (w.heap.size + 1 + 1) CV.zero ({C with fl := f}) rfl rfl (H6.out.2.1) (CV.fl_one hC _) ?_; intro wz hBz hgz) | fail)
                    refine P3.retE (nm := b0) H6.out hgz hBz rfl rfl rfl ?_
                    exact HX.out
                · go_wp2_with fail
                  refine (HC.out _ H2.out.2.1).mono ?_
                  rintro e w3 ⟨q3, t3, b3, x3, A8, n8, c8, A9, n9, c9, rfl, hb3, hO3, hl3, hl3', ho3⟩
                  have hP3 := H2.out.1.below (hb3.alloc hb3.size (.cells #[.int .u8 (t3.toNat : Int), .slice A8 n8 c8, .slice A9 n9 c9] 50))
                  have hr3 := hO3.rows
                  simp only [List.mem_cons, List.not_mem_nil, or_false, forall_eq_or_imp, forall_eq] at hr3
                  have hl8 := ownB_len hr3.1
                  have hR3 := (Rd.of_own hr3.1).alloc (Nat.le_refl _) (.cells #[.int .u8 (t3.toNat : Int), .slice A8 n8 c8, .slice A9 n9 c9] 50)
                  have hY := Blk.new w3 50 #[.int .u8 (t3.toNat : Int), .slice A8 n8 c8, .slice A9 n9 c9]
                  have y0 := hY.cell 0
                  have y1 := hY.cell 1
                  have y2 := hY.cell 2
                  simp only [List.getElem?_toArray, List.getElem?_cons_zero, List.getElem?_cons_succ] at y0 y1 y2
                  obtain ⟨w4, hw4⟩ : ∃ w4, w3.alloc (.cells #[.int .u8 (t3.toNat : Int), .slice A8 n8 c8, .slice A9 n9 c9] 50) = w4 := ⟨_, rfl⟩
                  have hs4 : w4.heap.size = w3.heap.size + 1 := by rw [← hw4]; simp
                  rw [hw4] at hP3 hR3 y0 y1 y2
                  have H3 := Lib.hid (And.intro hP3 (And.intro (hR3.more (B' := w4.heap.size) (by omega)) ho3))
                  have HW := Lib.hid hw4
                  clear hP3 hR3 ho3 hb3 hO3 hr3 hY f0 f1 hstr hw4
                  cases q3 with
                  | false =>
                    go_upto_region 11 with fail
                    rw [HW.out]
                    have hno : RC.extension C.fl (t, b, r) = none := by rw [HS4.out, H3.out.2.2]; rfl
                    have HN := Lib.hid hno
                    clear hno
                    go_wp2_with (first | ((with_reducible refine at_load_cert ?_); refine wpList_load_cert rfl _ rfl (w.heap.size) (C) rfl (H3.out.1.1) ?_) | ((with_reducible refine at_store_cert ?_); refine wpList_store_cert rfl _ _ rfl (w.heap.size + 1 + 1) CV.zero (C) rfl rfl (H3.out.1.2.1) (hC) ?_; intro wz hBz hgz) | fail)
                    refine P3.retE (nm := b0) H3.out.1 hgz hBz rfl rfl rfl ?_
                    exact HN.out
                  | true =>
                    have hsp5 : RC.extension C.fl (t, b, r) = (RC.meant C.fl (t3, b3, x3)).bind fun g => some (g, b0) := by
                      rw [HS4.out, H3.out.2.2]
                      simp only [if_true, Option.bind_some, HK.out.2]
                      try rfl
                    have HS5 := Lib.hid hsp5
                    clear hsp5
                    go_upto_region 11 with fail
                    rw [HW.out]
                    go_wp2_with (first | ((with_reducible refine at_load_cert ?_); refine wpList_load_cert rfl _ rfl (w.heap.size) C rfl (H3.out.1.1) ?_) | fail)
                    refine (rmeant_any C hC t3 A8 A9 n8 c8 n9 c9 b3 x3 _ H3.out.2.1 (by omega)).mono ?_
                    rintro e w5 ⟨q5, f, rfl, hb5, ho5⟩
                    have H5 := Lib.hid (And.intro (H3.out.1.below hb5) ho5)
                    have hext : RC.extension C.fl (t, b, r) = if q5 = true then some (f, b0) else none := by
                      rw [HS5.out, ho5]; cases q5 <;> rfl
                    have HX := Lib.hid hext
                    clear hb5 ho5 hext y0 y1 y2
                    go_upto_region 19 with (first | ((with_reducible refine at_store_cert ?_); refine wpList_store_cert rfl _ _ rfl (w.heap.size) C ({C with fl := f}) rfl rfl (H5.out.1.1) (CV.fl_one hC _) ?_; intro w6 hB6 hg6) | fail)
                    have H6 := Lib.hid (H5.out.1.grown hg6 hB6)
                    clear hB6 hg6
                    go_wp2_with (first | ((with_reducible refine at_load_cert ?_); refine wpList_load_cert rfl _ rfl (w.heap.size) ({C with fl := f}) rfl (H6.out.1) ?_) | ((with_reducible refine at_store_cert ?_); refine wpList_store_cert rfl _ _ rfl (w.heap.size + 1 + 1) CV.zero ({C with fl := f}) rfl rfl (H6.out.2.1) (CV.fl_one hC _) ?_; intro wz hBz hgz) | fail)
                    refine P3.retE (nm := b0) H6.out hgz hBz rfl rfl rfl ?_
                    exact HX.out
        · have h4' : ((tj.toNat : Int) != 4) = true := by simp [h4]
          have hno : RC.extension C.fl (t, b, r) = none := by rw [HS.out, must_f (by simp [h4])]; rfl
          have HN := Lib.hid hno
          clear h6 h4 hno
          go_wp2_with (first | ((with_reducible refine at_load_cert ?_); refine wpList_load_cert rfl _ rfl (w.heap.size) (C) rfl (H1.out.1.1) ?_) | ((with_reducible refine at_store_cert ?_); refine wpList_store_cert rfl _ _ rfl (w.heap.size + 1 + 1) CV.zero (C) rfl rfl (H1.out.1.2.1) (hC) ?_; intro wz hBz hgz) | fail)
          refine P3.retE (nm := []) H1.out.1 hgz hBz rfl rfl rfl ?_
          exact HN.out
      · have h6' : ((t0.toNat : Int) != 6) = true := by simp [h6]
        have hno : RC.extension C.fl (t, b, r) = none := by rw [HS.out, must_f (by simp [h6])]; rfl
        have HN := Lib.hid hno
        clear h6 hno
        go_wp2_with (first | ((with_reducible refine at_load_cert ?_); refine wpList_load_cert rfl _ rfl (w.heap.size) (C) rfl (H1.out.1.1) ?_) | ((with_reducible refine at_store_cert ?_); refine wpList_store_cert rfl _ _ rfl (w.heap.size + 1 + 1) CV.zero (C) rfl rfl (H1.out.1.2.1) (hC) ?_; intro wz hBz hgz) | fail)
        refine P3.retE (nm := []) H1.out.1 hgz hBz rfl rfl rfl ?_
        exact HN.out
end Go.Proofs.Ytmnekhliblkibaa
