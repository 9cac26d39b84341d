/- The contract of the document's Parse: it tells what Cert.parse tells. (Its drawn region is printed by genrc12.py from XRC12_0.txt.) -/
import Derived.Test.YtmnekhliblkibaaRC11
import Derived.Test.YtmnekhliblkibaaAllsD
namespace Go.Proofs.Ytmnekhliblkibaa
open Go.RowKit
set_option maxRecDepth 1000000
set_option linter.unusedVariables false
set_option linter.unusedSimpArgs false

/-- What is told of a certificate, by the document or the program. -/
def PCQ (b : List UInt8) (w : World) (e : Ending) (w' : World) : Prop := Below w.heap.size w w' ∧ ∃ C, e = .returned (.tuple #[C.val, .int .i64 ((Cert.parse b).err : Int)]) ∧ PC (Cert.parse b) b C w'
def SPc (o : Option Sg) (b g : List UInt8) (D : CV) (w : World) : Prop := (∀ v ∈ D.cells.toList, v.oneCell' = true) ∧ ∀ s, o = some s → D.from_ = s.from_ ∧ D.to = s.to ∧ D.e = s.e ∧ D.fl = s.fl ∧ CI w D b s.tbs s.iss s.sub s.ser s.n g
theorem SPc.rn {o : Option Sg} {b g : List UInt8} {D : CV} {w w' : World} (h : SPc o b g D w) (hr : RN w w') : SPc o b g D w' := ⟨h.1, fun s hs => by obtain ⟨h1, h2, h3, h4, h5⟩ := h.2 s hs; exact ⟨h1, h2, h3, h4, h5.below hr⟩⟩
theorem SPc.sn {B : Nat} {o : Option Sg} {b g : List UInt8} {D : CV} {w w' : World} (h : SPc o b g D w) (hr : SN B w w') : SPc o b g D w' := ⟨h.1, fun s hs => by obtain ⟨h1, h2, h3, h4, h5⟩ := h.2 s hs; exact ⟨h1, h2, h3, h4, hr.ci h5⟩⟩
/-- The answer of signed, by parts. -/
def JS (o : Option Sg) (b g : List UInt8) : Nat → Value → World → Prop
  | 0, v, w => ∃ D, v = .tuple #[D.val, .bool o.isSome] ∧ SPc o b g D w
  | 1, v, w => ∃ D, v = D.val ∧ SPc o b g D w
  | _, v, _ => v = .bool o.isSome
theorem Sta.js (B : Nat) (o : Option Sg) (b g : List UInt8) (i : Nat) : Sta1 B (JS o b g i) := by
  match i with
  | 0 => exact ⟨fun _ _ _ hr ⟨D, e, h⟩ => ⟨D, e, h.rn hr⟩, fun _ _ _ hr ⟨D, e, h⟩ => ⟨D, e, h.sn hr⟩⟩
  | 1 => exact ⟨fun _ _ _ hr ⟨D, e, h⟩ => ⟨D, e, h.rn hr⟩, fun _ _ _ hr ⟨D, e, h⟩ => ⟨D, e, h.sn hr⟩⟩
  | _ + 2 => exact ⟨fun _ _ _ _ h => h, fun _ _ _ _ h => h⟩
/-- The certificate that signed is handed. -/
def CV.raw0 (vr vg : Value) : CV := {CV.zero with raw := vr, sig := vg, fl := ⟨false, -1, -1, true⟩}
def JR (vg : Value) (b : List UInt8) (v : Value) (w : World) : Prop := ∃ vr, v = (CV.raw0 vr vg).val ∧ RdT w vr b
theorem Sta.jr (B : Nat) (vg : Value) (b : List UInt8) : Sta1 B (JR vg b) := ⟨fun _ _ _ hr ⟨D, e, h⟩ => ⟨D, e, h.below hr⟩, fun _ _ _ hr ⟨D, e, h⟩ => ⟨D, e, hr.rdt h⟩⟩
theorem SgQ.js {vr vg : Value} {b g : List UInt8} {o : Option Sg} {w w' : World} {e : Ending} (hr : RdT w vr b) (hg : RdT w vg g) (h : SgQ w (CV.raw0 vr vg) o e w') : ∃ v, e = .returned v ∧ JS o b g 0 v w' ∧ Below w.heap.size w w' := by
  obtain ⟨q, D, rfl, hb, hone, hno, hyes⟩ := h
  cases q with
  | false =>
    have ho := hno rfl
    exact ⟨_, rfl, ⟨D, by rw [ho]; rfl, hone, fun s hs => by rw [ho] at hs; cases hs⟩, hb⟩
  | true =>
    obtain ⟨s, ho, h1, h2, h3, h4, h5, h6, h7, h8, h9, h10, h11⟩ := hyes rfl
    refine ⟨_, rfl, ⟨D, by rw [ho]; rfl, hone, fun s' hs => ?_⟩, hb⟩
    rw [ho] at hs
    injection hs with hs
    subst hs
    exact ⟨h3, h4, h5, h6, ⟨by rw [h1]; exact hr.below hb, h7, h8, h9, h10, h11, by rw [h2]; exact hg.below hb⟩⟩
/-- The variable that signed's certificate is laid in. -/
def JY (B : Nat) (o : Option Sg) (b g : List UInt8) (v : Value) (w : World) : Prop := ∃ k D, v = .pointer (some ⟨k, 0, none⟩) ∧ B ≤ k ∧ Bc w k D ∧ SPc o b g D w
theorem JY.rn {B : Nat} {o : Option Sg} {b g : List UInt8} (v : Value) (w w' : World) (hr : RN w w') (h : JY B o b g v w) : JY B o b g v w' := by
  obtain ⟨k, D, e, hB, h1, h2⟩ := h
  exact ⟨k, D, e, hB, h1.below hr h1.lt, h2.rn hr⟩
section
variable {o : Oper} {a : Act} {w : World} {Q : Exit → Act → World → Prop} {J : Value → World → Prop} {B : Nat}
theorem N_js1 {oo : Option Sg} {b g : List UInt8} {x : Operand} (ho : o.op = .extract x 0) (hd : o.dst ≠ none) (hx : JS oo b g 0 (a.eval x) w) : o.wp Try.prog a w (KN a o (JS oo b g 1) w) Q := by
  obtain ⟨D, e, h⟩ := hx
  exact N_val (by simp only [execOp, ho, e]; rfl) hd ⟨D, rfl, h⟩
theorem N_js2 {oo : Option Sg} {b g : List UInt8} {x : Operand} (ho : o.op = .extract x 1) (hd : o.dst ≠ none) (hx : JS oo b g 0 (a.eval x) w) : o.wp Try.prog a w (KN a o (JS oo b g 2) w) Q := by
  obtain ⟨D, e, h⟩ := hx
  exact N_val (by simp only [execOp, ho, e]; rfl) hd rfl
theorem N_storeY {oo : Option Sg} {b g : List UInt8} {ops : Array Oper} {p : Nat} {x y : Operand} {J : Value → World → Prop} (hJt : ∀ v w, J v w) (ho : o.op = .store 32 x y) (hd : o.dst = none) (hB : B ≤ w.heap.size) (hx : JP B [] 3 (a.eval x) w) (hs : slotOf ops a p = a.eval x) (hy : JS oo b g 1 (a.eval y) w) :
    o.wp Try.prog a w (fun a' w' => ∃ v, a' = a.put o.dst v ∧ (o.dst = none → v = undef) ∧ J v w' ∧ SN B w w' ∧ JY B oo b g (slotOf ops a p) w') Q := by
  obtain ⟨k, C0, e, hg, hC⟩ := hx
  obtain ⟨D, e2, hp⟩ := hy
  refine wp_store_cert x y ho k C0 D e e2 hC hp.1 ?_
  intro w' hD' hg'
  have hS := SN.store hg hC hD' hg' hB
  exact ⟨undef, rfl, fun _ => rfl, hJt _ _, hS, ⟨k, D, hs.trans e, hg, hD', hp.sn hS⟩⟩
end
theorem run_raw0 (w : World) (A1 A2 : Option Addr) (n1 c1 n2 c2 : Nat) :
    (Instr.build 32 #[(0, .slice A1 n1 c1), (8, .slice A2 n2 c2), (10, .int .i64 (-1)), (11, .int .i64 (-1)), (12, .bool true)]).run Try.prog w = .ok (CV.raw0 (.slice A1 n1 c1) (.slice A2 n2 c2)).val w := by
  unfold CV.raw0 CV.val CV.cells CV.zero
  simp [go_sem]
theorem check_only {b : List UInt8} (h : Der.check b = 0) : ∃ x, Cert.only b = some x := by
  unfold Der.check at h
  unfold Cert.only
  split at h
  · cases h
  · rename_i t body r rest he
    rw [he]
    split at h
    · rename_i h0
      dsimp only
      rw [if_pos h0]
      exact ⟨_, rfl⟩
    · cases h
theorem raw0_one {vr vg : Value} (h1 : vr.oneCell' = true) (h2 : vg.oneCell' = true) : ∀ v ∈ (CV.raw0 vr vg).cells.toList, v.oneCell' = true := CV.one h1 rfl rfl rfl rfl rfl h2

/-- While Parse works: the result's variable. -/
def P1 (w W : World) : Prop := Bc W w.heap.size CV.zero ∧ Below w.heap.size w W ∧ w.heap.size + 1 ≤ W.heap.size
theorem P1.below {w W W' : World} (h : P1 w W) (hb : Below W.heap.size W W') : P1 w W' := ⟨h.1.below hb h.1.lt, h.2.1.trans (hb.mono h.2.1.size), Nat.le_trans h.2.2 hb.size⟩
theorem P1.no {w W wz : World} {b : List UInt8} {m : Nat} {tmps : Array Value} (h : P1 w W) (hg : W.grownBy wz (some w.heap.size)) (hB : Bc wz w.heap.size CV.zero) (hm : Cert.parse b = .no m) (h0 : m ≠ 0)
    (h2 : tmps.getD 2 undef = .pointer (some ⟨w.heap.size, 0, none⟩)) (h3 : tmps.getD 3 undef = .int .i64 (m : Int)) : bodyPost Try.prog Try.f17 (PCQ b w) .ret { tmps := tmps, defers := [] } wz := by
  refine bodyPost_ret (results_cell_tmp Try.results17 _ _ _ _ _ h2 (load_cert hB)) rfl ?_
  rw [h3]
  exact ⟨below_grow h.2.1 hg (Nat.le_refl _) (Nat.le_refl _), CV.zero, by rw [hm]; rfl, ⟨by rw [hm]; exact ⟨rfl, h0⟩⟩⟩

set_option maxHeartbeats 16000000 in
theorem rparse_any (A : Option Addr) (n c : Nat) (b : List UInt8) (w : World) (h : Rd w w.heap.size A n c b) (hn : n ≤ 1099511627) :
    Calls Try.prog 17 #[.slice A n c] w (PCQ b w) := by
  have hnl := h.len
  have hP0 : P1 w (w.alloc (.cells CV.zero.cells 32)) := ⟨Blk.new w _ _, by (repeat (first | exact Below.refl _ _ | assumption | (refine Below.setCell ?_ (by first | omega | (simp; done) | (simp; omega)) _) | (refine Below.alloc ?_ (by first | omega | (simp; done) | (simp; omega)) _) | (refine below_drewN ?_ _) | (refine Below.drew ?_))), by simp⟩
  go_enter Try.func17, Try.ntmps17
  by_cases h8 : 8192 < n
  case pos =>
    have h8' : (8192 : Int) < n := by omega
    have hsp : Cert.parse b = .no 10 := by rw [rparse_eq, if_pos (by omega)]
    have HS := Lib.hid hsp
    clear hsp
    go_wp2_with (first | ((with_reducible refine at_store_cert ?_); refine wpList_store_cert rfl _ _ rfl (w.heap.size) CV.zero CV.zero rfl rfl (hP0.1) CV.zero_cells ?_; intro wz hBz hgz) | fail)
    exact P1.no hP0 hgz hBz HS.out (by decide) rfl rfl
  have h8' : ¬ (8192 : Int) < n := by omega
  have hsp : Cert.parse b = if Der.check b ≠ 0 then .no (Der.check b) else match RC.read b with
      | none => .no 9
      | some p => .yes p.1 p.2 := by
    rw [rparse_eq, if_neg (by omega)]
    split
    · rfl
    · cases RC.read b <;> rfl
  have HS := Lib.hid hsp
  clear hsp
  go_wp2_with fail
  refine (refCheck_any A n c b _ ((h.alloc (Nat.le_refl _) _).more (by simp)) hn).mono ?_
  obtain ⟨V, hV⟩ : ∃ V, Der.check b = V := ⟨_, rfl⟩
  rw [hV]
  rintro e w1 ⟨rfl, hb1⟩
  have hP1 := hP0.below hb1
  have H1 := Lib.hid (And.intro hP1 (And.intro hV (h.up hP1.2.1)))
  clear hP0 hP1 hb1 hV h
  by_cases hV0 : V = 0
  case neg =>
    have hV' : ((V : Int) != 0) = true := by simp; omega
    have hsp2 : Cert.parse b = .no V := by rw [HS.out, H1.out.2.1, if_pos hV0]
    have HS2 := Lib.hid (And.intro hsp2 hV0)
    clear hsp2 hV0
    go_wp2_with (first | ((with_reducible refine at_store_cert ?_); refine wpList_store_cert rfl _ _ rfl (w.heap.size) CV.zero CV.zero rfl rfl (H1.out.1.1) CV.zero_cells ?_; intro wz hBz hgz) | fail)
    exact P1.no H1.out.1 hgz hBz HS2.out.1 HS2.out.2 rfl rfl
  subst hV0
  have hsp2 : Cert.parse b = match RC.read b with
      | none => .no 9
      | some p => .yes p.1 p.2 := by rw [HS.out, H1.out.2.1, if_neg (by decide)]
  have HS2 := Lib.hid hsp2
  clear hsp2 HS
  go_wp2_with fail
  refine (ronly_any A n c b _ H1.out.2.2 (by omega)).mono ?_
  rintro e w2 ⟨q2, t2, b2, r2, A3, n3, c3, A4, n4, c4, rfl, hb2, hO2, hl2, hl2', ho2⟩
  obtain rfl : q2 = true := by
    obtain ⟨x, hx⟩ := check_only H1.out.2.1
    rw [hx] at ho2
    cases q2 with
    | true => rfl
    | false => cases ho2
  have hr2 := hO2.rows
  simp only [List.mem_cons, List.not_mem_nil, or_false, forall_eq_or_imp, forall_eq] at hr2
  have hl3 := ownB_len hr2.1
  have hb12 : Below w1.heap.size w1 (w2.alloc (.cells #[.int .u8 (t2.toNat : Int), .slice A3 n3 c3, .slice A4 n4 c4] 50)) := hb2.alloc hb2.size _
  have hP2 := H1.out.1.below hb12
  have hR2 := ((Rd.of_own hr2.1).alloc (Nat.le_refl _) (.cells #[.int .u8 (t2.toNat : Int), .slice A3 n3 c3, .slice A4 n4 c4] 50)).more (B' := (w2.alloc (.cells #[.int .u8 (t2.toNat : Int), .slice A3 n3 c3, .slice A4 n4 c4] 50)).heap.size) (by simp)
  have hRb := H1.out.2.2.up hb12
  have hread : RC.read b = (RC.parts 48 (t2, b2, r2)).bind fun l => (Cert.must (decide (l.length = 3) && ((l.getD 1 El.none_).2.2 == Ref.signAlg))).bind fun _ =>
      (Cert.whole (l.getD 2 El.none_)).bind fun g => (RC.signed ⟨false, -1, -1, true⟩ (l.getD 0 El.none_)).bind fun s => some (s, g) := by
    unfold RC.read; rw [ho2]; rfl
  have H2 := Lib.hid (And.intro hP2 (And.intro hR2 (And.intro hRb hread)))
  clear ho2 hO2 hb2 hr2 hb12 hP2 hR2 hRb hread
  go_wp2_with fail
  refine (rparts_any t2 A3 A4 n3 c3 n4 c4 48 b2 r2 _ H2.out.2.1 (by omega)).mono ?_
  rintro e w3 ⟨q3, A5, n5, c5, L, rfl, hb3, hE3, hnl3, hm3, ho3⟩
  have hP3 := H2.out.1.below hb3
  obtain ⟨l, hl⟩ : ∃ l, l = L.map EI.dat := ⟨_, rfl⟩
  rw [← hl] at hm3 ho3
  have hll : l.length = n5 := by rw [hl, List.length_map]; exact hnl3.symm
  have hRb3 := H2.out.2.2.1.up hb3
  have H3 := Lib.hid (And.intro hP3 (And.intro hE3 (And.intro hm3 (And.intro ho3 (And.intro hl (And.intro hll hRb3))))))
  clear hP3 hE3 hm3 ho3 hl hll hRb3 hnl3 hb3
  have hno : RC.read b = none → Cert.parse b = .no 9 := fun h => by rw [HS2.out, h]
  have HNO := Lib.hid hno
  clear hno
  cases q3 with
  | false =>
    have hN : Cert.parse b = .no 9 := HNO.out (by rw [H2.out.2.2.2, H3.out.2.2.2.1]; rfl)
    have HN := Lib.hid hN
    clear hN
    go_wp2_with (first | ((with_reducible refine at_store_cert ?_); refine wpList_store_cert rfl _ _ rfl (w.heap.size) CV.zero CV.zero rfl rfl (H3.out.1.1) CV.zero_cells ?_; intro wz hBz hgz) | fail)
    exact P1.no H3.out.1 hgz hBz HN.out (by decide) rfl rfl
  | true =>
  have hread2 : RC.read b = (Cert.must (decide (n5 = 3) && ((l.getD 1 El.none_).2.2 == Ref.signAlg))).bind fun _ =>
      (Cert.whole (l.getD 2 El.none_)).bind fun g => (RC.signed ⟨false, -1, -1, true⟩ (l.getD 0 El.none_)).bind fun s => some (s, g) := by
    rw [H2.out.2.2.2, H3.out.2.2.2.1]
    simp only [if_true, Option.bind_some, H3.out.2.2.2.2.2.1]
  have HR2 := Lib.hid hread2
  clear hread2
  by_cases h53 : n5 = 3
  case neg =>
    have h53' : ((n5 : Int) != 3) = true := by simp; omega
    have hN : Cert.parse b = .no 9 := HNO.out (by rw [HR2.out, must_f (by simp [h53])]; rfl)
    have HN := Lib.hid hN
    clear hN h53
    go_wp2_with (first | ((with_reducible refine at_store_cert ?_); refine wpList_store_cert rfl _ _ rfl (w.heap.size) CV.zero CV.zero rfl rfl (H3.out.1.1) CV.zero_cells ?_; intro wz hBz hgz) | fail)
    exact P1.no H3.out.1 hgz hBz HN.out (by decide) rfl rfl
  subst h53
  obtain ⟨g, rfl, hg, hg2⟩ := H3.out.2.1.spot_ (by omega)
  obtain ⟨t0, B0, m0, d0, y0, D0, k0, e0, x0, hx0, p00, p01, p02, R00, R01, hk0⟩ := H3.out.2.1.el H3.out.2.2.2.2.1 (Below.refl w3.heap.size w3) (Nat.le_refl _) 0 0 (by omega) rfl
  obtain ⟨t1, B1, m1, d1, y1, D1, k1, e1, x1, hx1, p10, p11, p12, R10, R11, hk1⟩ := H3.out.2.1.el H3.out.2.2.2.2.1 (Below.refl w3.heap.size w3) (Nat.le_refl _) 1 3 (by omega) rfl
  obtain ⟨t9, B9, m9, d9, y9, D9, k9, e9, x9, hx9, p90, p91, p92, R90, R91, hk9⟩ := H3.out.2.1.el H3.out.2.2.2.2.1 (Below.refl w3.heap.size w3) (Nat.le_refl _) 2 6 (by omega) rfl
  have hT0 := H3.out.2.1.rdt hk0 (Nat.le_refl _)
  have hl0 := len_mem H3.out.2.2.1 hx0
  have hl9 := len_mem H3.out.2.2.1 hx9
  have hm0 : m0 ≤ 1099511627 := by have := R00.len; omega
  have hm9 : m9 ≤ 1099511627776 := by have := R90.len; omega
  have hst := run_string R11 9 Try.underlying9
  obtain ⟨z, hz⟩ : ∃ z, (x1 == [48, 13, 6, 9, 42, 134, 72, 134, 247, 13, 1, 1, 11, 5, 0]) = z := ⟨_, rfl⟩
  have hread3 : RC.read b = (Cert.must z).bind fun _ => (Cert.whole (t9, y9, x9)).bind fun g => (RC.signed ⟨false, -1, -1, true⟩ (t0, y0, x0)).bind fun s => some (s, g) := by
    rw [HR2.out, hx0, hx1, hx9, show (x1 == Ref.signAlg) = z from hz]; rfl
  have H4 := Lib.hid (And.intro hread3 (And.intro hT0 (And.intro R90 (And.intro p00 (And.intro p01 p02)))))
  clear hread3 hT0 R00 R01 R10 R11 R90 R91 hx0 hx1 hx9 hl0 hl9 HR2 hk0 hk1 hk9
  cases z with
  | false =>
    have hN : Cert.parse b = .no 9 := HNO.out (by rw [H4.out.1]; rfl)
    have HN := Lib.hid hN
    clear hN
    go_wp2_with (first | ((with_reducible refine at_store_cert ?_); refine wpList_store_cert rfl _ _ rfl (w.heap.size) CV.zero CV.zero rfl rfl (H3.out.1.1) CV.zero_cells ?_; intro wz hBz hgz) | fail)
    exact P1.no H3.out.1 hgz hBz HN.out (by decide) rfl rfl
  | true =>
  go_wp2_with fail
  refine (rwhole_any t9 B9 D9 m9 d9 k9 e9 y9 x9 _ H4.out.2.2.1 hm9).mono ?_
  rintro e w4 ⟨q4, A6, n6, c6, yg, rfl, hb4, hO4, hl4, ho4⟩
  have hP4 := H3.out.1.below hb4
  have hT4 : RdT w4 (.slice B0 m0 d0) y0 ∧ RdT w4 (.slice D0 k0 e0) x0 := ⟨H4.out.2.1.1.below hb4, H4.out.2.1.2.below hb4⟩
  obtain ⟨oo, hoo⟩ : ∃ oo, RC.signed ⟨false, -1, -1, true⟩ (t0, y0, x0) = oo := ⟨_, rfl⟩
  have hread4 : RC.read b = (if q4 = true then some yg else none).bind fun g => oo.bind fun s => some (s, g) := by
    rw [H4.out.1, ho4, hoo]; rfl
  have s0 : w4.cell? ⟨g, 0, none⟩ = some (.int .u8 (t0.toNat : Int)) := (hb4.cell (p := ⟨g, 0, none⟩) hg).trans H4.out.2.2.2.1
  have s1 : w4.cell? ⟨g, 1, none⟩ = some (.slice B0 m0 d0) := (hb4.cell (p := ⟨g, 1, none⟩) hg).trans H4.out.2.2.2.2.1
  have s2 : w4.cell? ⟨g, 2, none⟩ = some (.slice D0 k0 e0) := (hb4.cell (p := ⟨g, 2, none⟩) hg).trans H4.out.2.2.2.2.2
  have hg4 : g < w4.heap.size := Nat.lt_of_lt_of_le hg hb4.size
  have hcall : ∀ (W : World) (vr : Value), RdT W vr b → RdT W (.slice B0 m0 d0) y0 → RdT W (.slice D0 k0 e0) x0 → Calls Try.prog 50 #[(CV.raw0 vr (.slice A6 n6 c6)).val, .agg #[.int .u8 (t0.toNat : Int), .slice B0 m0 d0, .slice D0 k0 e0]] W (SgQ W (CV.raw0 vr (.slice A6 n6 c6)) oo) := fun W vr h1 h2 h3 => by
    have := rsigned_any (CV.raw0 vr (.slice A6 n6 c6)) (raw0_one (rdt_one' h1) rfl) t0 B0 D0 m0 d0 k0 e0 y0 x0 W h2.rd h3 hm0
    rwa [show (CV.raw0 vr (.slice A6 n6 c6)).fl = ⟨false, -1, -1, true⟩ from rfl, hoo] at this
  have H5 := Lib.hid (And.intro hP4 (And.intro hT4 (And.intro hread4 (And.intro hcall (And.intro (H3.out.2.2.2.2.2.2.up hb4) (RdT.own hO4))))))
  have HC5 := Lib.hid (And.intro s0 (And.intro s1 s2))
  clear hP4 hT4 hread4 hcall ho4 hoo hO4 hl4 hb4 p00 p01 p02 p10 p11 p12 p90 p91 p92 hst s0 s1 s2
  go_upto_region 11 with fail
  refine wp_region_two 12 11 (JL [(fun v _ => v = .slice A n c), (fun v w => RdT w v b), (fun v _ => v = .slice A6 n6 c6), (JR (.slice A6 n6 c6) b), (fun v _ => v = .slice (some ⟨g, 0, none⟩) 3 c5), (fun v _ => v = .pointer (some ⟨g, 0 * 3, none⟩)), (fun v _ => v = .agg #[.int .u8 (t0.toNat : Int), .slice B0 m0 d0, .slice D0 k0 e0]), (JS oo b yg 0), (JS oo b yg 0), (JS oo b yg 1), (JS oo b yg 2), (JP w4.heap.size [] 3), (fun _ _ => True), (JS oo b yg 2)]) (JY w4.heap.size oo b yg) (Below w4.heap.size w4) RN (SN w4.heap.size) ?hm ?hmono ?hmonoS JY.rn ?hGR ?hGS ?hd ?hg ?hA ?hW ((Below.refl _ _).drew) ?hs ?hdone
  case hm => rfl
  case hmono => exact JL.rn (B := w4.heap.size) (Sta.cons (Sta.con _ _) (Sta.cons (Sta.rdt _ _) (Sta.cons (Sta.con _ _) (Sta.cons (Sta.jr _ _ _) (Sta.cons (Sta.con _ _) (Sta.cons (Sta.con _ _) (Sta.cons (Sta.con _ _) (Sta.cons (Sta.js _ _ _ _ _) (Sta.cons (Sta.js _ _ _ _ _) (Sta.cons (Sta.js _ _ _ _ _) (Sta.cons (Sta.js _ _ _ _ _) (Sta.cons (Sta.jp _ _ _) (Sta.cons (Sta.true _) (Sta.cons (Sta.js _ _ _ _ _) Sta.nil))))))))))))))
  case hmonoS => exact JL.sn (B := w4.heap.size) (Sta.cons (Sta.con _ _) (Sta.cons (Sta.rdt _ _) (Sta.cons (Sta.con _ _) (Sta.cons (Sta.jr _ _ _) (Sta.cons (Sta.con _ _) (Sta.cons (Sta.con _ _) (Sta.cons (Sta.con _ _) (Sta.cons (Sta.js _ _ _ _ _) (Sta.cons (Sta.js _ _ _ _ _) (Sta.cons (Sta.js _ _ _ _ _) (Sta.cons (Sta.js _ _ _ _ _) (Sta.cons (Sta.jp _ _ _) (Sta.cons (Sta.true _) (Sta.cons (Sta.js _ _ _ _ _) Sta.nil))))))))))))))
  case hGR => exact fun w w' h1 h2 => h1.trans (Below.mono h2 h1.size)
  case hGS => exact fun w w' h1 h2 => h1.trans h2.1
  case hd => show dstsOk _ 74 = true; decide +kernel
  case hg => decide +kernel
  case hA => decide +kernel
  case hW => decide +kernel
  case hs =>
    refine ⟨two_else (by decide) ?_, two_else (by decide) ?_, two_else (by decide) ?_, two_else (by decide) ?_, two_else (by decide) ?_, two_else (by decide) ?_, two_else (by decide) ?_, two_else (by decide) ?_, two_else (by decide) ?_, two_else (by decide) ?_, two_else (by decide) ?_, two_else (by decide) ?_, two_then ?_, two_else (by decide) ?_, trivial⟩
    · intro a W hfr hG hdep; exact N_move rfl (by simp) (hfr 0 (by decide +kernel))
    · intro a W hfr hG hdep
      have e1 : a.eval (.tmp 56) = .slice A n c := hdep 0 (by decide +kernel)
      refine N_call rfl (by simp) Try.func37 rfl (by decide) (args := #[.slice A n c]) (by simp [e1]) (copy_any A n c b W (H5.out.2.2.2.2.1.up hG) (by omega)) ?_
      rintro e w'' ⟨A7, n7, c7, rfl, ho7, hb7⟩
      exact ⟨_, rfl, RdT.own ho7, hb7⟩
    · intro a W hfr hG hdep; exact N_move rfl (by simp) (hfr 9 (by decide +kernel))
    · intro a W hfr hG hdep
      obtain ⟨A7, n7, c7, e1, h7, h7'⟩ : RdT W (a.eval (.tmp 57)) b := hdep 1 (by decide +kernel)
      have e2 : a.eval (.tmp 58) = .slice A6 n6 c6 := hdep 2 (by decide +kernel)
      refine N_val (v := (CV.raw0 (.slice A7 n7 c7) (.slice A6 n6 c6)).val) ?_ (by simp) ⟨_, rfl, A7, n7, c7, rfl, h7, h7'⟩
      have hb := run_raw0 W A7 A6 n7 c7 n6 c6
      have hc : ∀ v, a.eval (.const v) = v := fun _ => rfl
      simp only [execOp, List.map_toArray, List.map_cons, List.map_nil, e1, e2, hc, Sem.run_bind, hb, Result.andThen_ok, Sem.run_pure]
    · intro a W hfr hG hdep; exact N_move rfl (by simp) (hfr 7 (by decide +kernel))
    · intro a W hfr hG hdep; exact N_idx (k := 0) rfl (by simp) (hdep 4 (by decide +kernel)) rfl (by omega) rfl
    · intro a W hfr hG hdep; exact N_load rfl (by simp) (hdep 5 (by decide +kernel)) (load_elem ((hG.cell (p := ⟨g, 0, none⟩) hg4).trans HC5.out.1) ((hG.cell (p := ⟨g, 1, none⟩) hg4).trans HC5.out.2.1) ((hG.cell (p := ⟨g, 2, none⟩) hg4).trans HC5.out.2.2)) rfl
    · intro a W hfr hG hdep
      obtain ⟨vr, e1, hvr⟩ : JR (.slice A6 n6 c6) b (a.eval (.tmp 59)) W := hdep 3 (by decide +kernel)
      have e2 : a.eval (.tmp 62) = .agg #[.int .u8 (t0.toNat : Int), .slice B0 m0 d0, .slice D0 k0 e0] := hdep 6 (by decide +kernel)
      refine N_call rfl (by simp) Try.func50 rfl (by decide) (args := #[(CV.raw0 vr (.slice A6 n6 c6)).val, .agg #[.int .u8 (t0.toNat : Int), .slice B0 m0 d0, .slice D0 k0 e0]]) ?_ (H5.out.2.2.2.1 W vr hvr (H5.out.2.1.1.below hG) (H5.out.2.1.2.below hG)) (fun e w'' h => h.js hvr (H5.out.2.2.2.2.2.below hG))
      exact map_two e1 e2
    · intro a W hfr hG hdep; exact N_move rfl (by simp) (hdep 7 (by decide +kernel))
    · intro a W hfr hG hdep; exact N_js1 rfl (by simp) (hdep 8 (by decide +kernel))
    · intro a W hfr hG hdep; exact N_js2 rfl (by simp) (hdep 8 (by decide +kernel))
    · intro a W hfr hG hdep; exact N_newc (B := w4.heap.size) (b := []) rfl (by simp) hG.size
    · intro a W hfr hG hdep; exact N_storeY (p := 11) (fun _ _ => trivial) rfl rfl hG.size (hdep 11 (by decide +kernel)) rfl (hdep 9 (by decide +kernel))
    · intro a W hfr hG hdep; exact N_assign rfl (by simp) (hdep 10 (by decide +kernel))
  case hdone =>
    intro a W hdf hsz hfr hG hJ hV
    have hV : JY w4.heap.size oo b yg (a.eval (.tmp 10)) W := hV
    obtain ⟨gv, D, hgv, hgB, hBv, hSv⟩ := hV
    have e := arr_eta a 74 hsz hdf
    rw [show (List.range 74).map (fun i => a.eval (.tmp i)) = a.eval (.tmp 0) :: a.eval (.tmp 1) :: a.eval (.tmp 2) :: a.eval (.tmp 3) :: a.eval (.tmp 4) :: a.eval (.tmp 5) :: a.eval (.tmp 6) :: a.eval (.tmp 7) :: a.eval (.tmp 8) :: a.eval (.tmp 9) :: a.eval (.tmp 10) :: a.eval (.tmp 11) :: a.eval (.tmp 12) :: a.eval (.tmp 13) :: a.eval (.tmp 14) :: a.eval (.tmp 15) :: a.eval (.tmp 16) :: a.eval (.tmp 17) :: a.eval (.tmp 18) :: a.eval (.tmp 19) :: a.eval (.tmp 20) :: a.eval (.tmp 21) :: a.eval (.tmp 22) :: a.eval (.tmp 23) :: a.eval (.tmp 24) :: a.eval (.tmp 25) :: a.eval (.tmp 26) :: a.eval (.tmp 27) :: a.eval (.tmp 28) :: a.eval (.tmp 29) :: a.eval (.tmp 30) :: a.eval (.tmp 31) :: a.eval (.tmp 32) :: a.eval (.tmp 33) :: a.eval (.tmp 34) :: a.eval (.tmp 35) :: a.eval (.tmp 36) :: a.eval (.tmp 37) :: a.eval (.tmp 38) :: a.eval (.tmp 39) :: a.eval (.tmp 40) :: a.eval (.tmp 41) :: a.eval (.tmp 42) :: a.eval (.tmp 43) :: a.eval (.tmp 44) :: a.eval (.tmp 45) :: a.eval (.tmp 46) :: a.eval (.tmp 47) :: a.eval (.tmp 48) :: a.eval (.tmp 49) :: a.eval (.tmp 50) :: a.eval (.tmp 51) :: a.eval (.tmp 52) :: a.eval (.tmp 53) :: a.eval (.tmp 54) :: a.eval (.tmp 55) :: a.eval (.tmp 56) :: a.eval (.tmp 57) :: a.eval (.tmp 58) :: a.eval (.tmp 59) :: a.eval (.tmp 60) :: a.eval (.tmp 61) :: a.eval (.tmp 62) :: a.eval (.tmp 63) :: a.eval (.tmp 64) :: a.eval (.tmp 65) :: a.eval (.tmp 66) :: a.eval (.tmp 67) :: a.eval (.tmp 68) :: a.eval (.tmp 69) :: a.eval (.tmp 70) :: a.eval (.tmp 71) :: a.eval (.tmp 72) :: a.eval (.tmp 73) :: [] from rfl] at e
    rw [show a.eval (.tmp 10) = .pointer (some ⟨gv, 0, none⟩) from hgv] at e
    rw [show a.eval (.tmp 11) = .bool oo.isSome from hJ 13 (by decide)] at e
    rw [show a.eval (.tmp 2) = .pointer (some ⟨w.heap.size, 0, none⟩) from hfr 2 (by decide +kernel)] at e
    rw [show a.eval (.tmp 8) = .bool q4 from hfr 8 (by decide +kernel)] at e
    generalize a.eval (.tmp 0) = u0 at e
    generalize a.eval (.tmp 1) = u1 at e
    generalize a.eval (.tmp 3) = u3 at e
    generalize a.eval (.tmp 4) = u4 at e
    generalize a.eval (.tmp 5) = u5 at e
    generalize a.eval (.tmp 6) = u6 at e
    generalize a.eval (.tmp 7) = u7 at e
    generalize a.eval (.tmp 9) = u9 at e
    generalize a.eval (.tmp 12) = u12 at e
    generalize a.eval (.tmp 13) = u13 at e
    generalize a.eval (.tmp 14) = u14 at e
    generalize a.eval (.tmp 15) = u15 at e
    generalize a.eval (.tmp 16) = u16 at e
    generalize a.eval (.tmp 17) = u17 at e
    generalize a.eval (.tmp 18) = u18 at e
    generalize a.eval (.tmp 19) = u19 at e
    generalize a.eval (.tmp 20) = u20 at e
    generalize a.eval (.tmp 21) = u21 at e
    generalize a.eval (.tmp 22) = u22 at e
    generalize a.eval (.tmp 23) = u23 at e
    generalize a.eval (.tmp 24) = u24 at e
    generalize a.eval (.tmp 25) = u25 at e
    generalize a.eval (.tmp 26) = u26 at e
    generalize a.eval (.tmp 27) = u27 at e
    generalize a.eval (.tmp 28) = u28 at e
    generalize a.eval (.tmp 29) = u29 at e
    generalize a.eval (.tmp 30) = u30 at e
    generalize a.eval (.tmp 31) = u31 at e
    generalize a.eval (.tmp 32) = u32 at e
    generalize a.eval (.tmp 33) = u33 at e
    generalize a.eval (.tmp 34) = u34 at e
    generalize a.eval (.tmp 35) = u35 at e
    generalize a.eval (.tmp 36) = u36 at e
    generalize a.eval (.tmp 37) = u37 at e
    generalize a.eval (.tmp 38) = u38 at e
    generalize a.eval (.tmp 39) = u39 at e
    generalize a.eval (.tmp 40) = u40 at e
    generalize a.eval (.tmp 41) = u41 at e
    generalize a.eval (.tmp 42) = u42 at e
    generalize a.eval (.tmp 43) = u43 at e
    generalize a.eval (.tmp 44) = u44 at e
    generalize a.eval (.tmp 45) = u45 at e
    generalize a.eval (.tmp 46) = u46 at e
    generalize a.eval (.tmp 47) = u47 at e
    generalize a.eval (.tmp 48) = u48 at e
    generalize a.eval (.tmp 49) = u49 at e
    generalize a.eval (.tmp 50) = u50 at e
    generalize a.eval (.tmp 51) = u51 at e
    generalize a.eval (.tmp 52) = u52 at e
    generalize a.eval (.tmp 53) = u53 at e
    generalize a.eval (.tmp 54) = u54 at e
    generalize a.eval (.tmp 55) = u55 at e
    generalize a.eval (.tmp 56) = u56 at e
    generalize a.eval (.tmp 57) = u57 at e
    generalize a.eval (.tmp 58) = u58 at e
    generalize a.eval (.tmp 59) = u59 at e
    generalize a.eval (.tmp 60) = u60 at e
    generalize a.eval (.tmp 61) = u61 at e
    generalize a.eval (.tmp 62) = u62 at e
    generalize a.eval (.tmp 63) = u63 at e
    generalize a.eval (.tmp 64) = u64 at e
    generalize a.eval (.tmp 65) = u65 at e
    generalize a.eval (.tmp 66) = u66 at e
    generalize a.eval (.tmp 67) = u67 at e
    generalize a.eval (.tmp 68) = u68 at e
    generalize a.eval (.tmp 69) = u69 at e
    generalize a.eval (.tmp 70) = u70 at e
    generalize a.eval (.tmp 71) = u71 at e
    generalize a.eval (.tmp 72) = u72 at e
    generalize a.eval (.tmp 73) = u73 at e
    subst e
    clear hfr hJ hsz hdf hgv
    have hPW := H5.out.1.below hG
    have H6 := Lib.hid (And.intro hPW (And.intro hBv hSv))
    clear hPW hBv hSv hG
    obtain ⟨q5, hq5⟩ : ∃ q5, oo.isSome = q5 := ⟨_, rfl⟩
    rw [hq5]
    have HQ := Lib.hid hq5
    clear hq5
    have hbad : (q4 && q5) = false → Cert.parse b = .no 9 := by
      intro hq
      apply HNO.out
      rw [H5.out.2.2.1]
      cases q4 with
      | false => rfl
      | true =>
        cases oo with
        | none => rfl
        | some s => have := HQ.out; rw [← this] at hq; cases hq
    have HBAD := Lib.hid hbad
    clear hbad
    cases q4 with
    | false =>
      go_wp2_with (first | ((with_reducible refine at_store_cert ?_); refine wpList_store_cert rfl _ _ rfl (w.heap.size) CV.zero CV.zero rfl rfl (H6.out.1.1) CV.zero_cells ?_; intro wz hBz hgz) | fail)
      exact P1.no H6.out.1 hgz hBz (HBAD.out rfl) (by decide) rfl rfl
    | true =>
      cases q5 with
      | false =>
        go_wp2_with (first | ((with_reducible refine at_store_cert ?_); refine wpList_store_cert rfl _ _ rfl (w.heap.size) CV.zero CV.zero rfl rfl (H6.out.1.1) CV.zero_cells ?_; intro wz hBz hgz) | fail)
        exact P1.no H6.out.1 hgz hBz (HBAD.out rfl) (by decide) rfl rfl
      | true =>
        obtain ⟨s, hs⟩ := Option.isSome_iff_exists.1 HQ.out
        have hyes : Cert.parse b = .yes s yg := by rw [HS2.out, H5.out.2.2.1, hs]; rfl
        have HY := Lib.hid (And.intro hyes hs)
        clear hyes hs
        go_wp2_with (first | ((with_reducible refine at_load_cert ?_); refine wpList_load_cert rfl _ rfl gv D rfl (H6.out.2.1) ?_) | ((with_reducible refine at_store_cert ?_); refine wpList_store_cert rfl _ _ rfl (w.heap.size) CV.zero D rfl rfl (H6.out.1.1) (H6.out.2.2.1) ?_; intro wz hBz hgz) | fail)
        refine bodyPost_ret (results_cell_tmp Try.results17 _ _ _ _ _ rfl (load_cert hBz)) rfl ?_
        obtain ⟨f1, f2, f3, f4, f5⟩ := H6.out.2.2.2 s HY.out.2
        refine ⟨below_grow H6.out.1.2.1 hgz (Nat.le_refl _) (Nat.le_refl _), D, by rw [HY.out.1]; rfl, ⟨?_⟩⟩
        rw [HY.out.1]
        exact ⟨f1, f2, f3, f4, f5.far hgz H6.out.1.1⟩
end Go.Proofs.Ytmnekhliblkibaa
