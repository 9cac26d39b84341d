/- The contract of Brought. -/
import Derived.Test.YtmpladnglfiejaaGreatDoorPD
import Derived.Test.YtmpladnglfiejaaGreatDoorPE
import Derived.Test.YtmpladnglfiejaaGreatDoorPG
import Derived.Test.YtmpladnglfiejaaGreatDoorJf
import Derived.Test.YtmpladnglfiejaaGreatDoorPB
import Derived.BigQuiet
import Derived.Deep.QuietTactic
import Derived.Deep.RegionHeld3
import Derived.Deep.Cut
namespace Go.Proofs.YtmpladnglfiejaaGreatDoor
open Go.RowKit
set_option maxRecDepth 100000
set_option linter.unusedVariables false
set_option linter.unusedSimpArgs false
theorem F_lenI {Q : Exit → Act → World → Prop} {o : Oper} {a : Act} {w : World} {Mi : World → Prop} {R : World → World → Prop} {x : Operand} {A : Option Addr} {n c : Nat} (ho : o.op = .call { callee := .builtin .len, args := #[x], argTypes := #[43] }) (hx : a.eval x = .slice A n c) (hM : Mi w) (hR : R w w) : o.wp Tryz.prog a w (RK o a w (.int .i64 (n : Int)) Mi R) Q := by
  have hm : (#[x] : Array Operand).map a.eval = #[.slice A n c] := by rw [← hx]; simp
  have hl : (Builtin.len_ #[43] o.type #[.slice A n c]).run Tryz.prog w = .ok (.int .i64 (n : Int)) w := rfl
  refine F_val ?_ hM hR
  simp only [execOp, ho, resolve, hm]
  simp [go_sem, hl]
theorem F_min {Q : Exit → Act → World → Prop} {o : Oper} {a : Act} {w : World} {Mi : World → Prop} {R : World → World → Prop} {x y : Operand} {ts : Array TypeId} {u v r : Int} (ho : o.op = .call { callee := .builtin .min, args := #[x, y], argTypes := ts }) (hx : a.eval x = .int .i64 u) (hy : a.eval y = .int .i64 v) (hr : (if v < u then v else u) = r) (hM : Mi w) (hR : R w w) : o.wp Tryz.prog a w (RK o a w (.int .i64 r) Mi R) Q := by
  have hm : (#[x, y] : Array Operand).map a.eval = #[.int .i64 u, .int .i64 v] := by rw [← hx, ← hy]; simp
  refine F_val ?_ hM hR
  subst hr
  simp only [execOp, ho, resolve, hm]
  simp [go_sem]
/-- What region 1's slots hold. -/
def BrJ (X : Nat) (H : Nat) (pl : Bool) (S1 S2 S4 S5 : Value) (n1 n2 n4 n5 m1 m2 m4 m5 : Nat) (T1 T2 T4 T5 : Value) : Nat → Value → World → Prop
  | 0, v, _ => v = .pointer (some ⟨X, 0, none⟩)
  | 1, v, _ => v = .bool pl
  | 2, v, _ => v = .pointer (some ⟨X, 1, none⟩)
  | 3, v, _ => v = S1
  | 4, v, _ => v = .pointer (some ⟨X, 1, none⟩)
  | 5, v, _ => v = S1
  | 6, v, _ => v = .int .i64 (n1 : Int)
  | 7, v, _ => v = .int .i64 (m1 : Int)
  | 8, v, _ => v = T1
  | 9, v, _ => v = .pointer (some ⟨X, 2, none⟩)
  | 10, v, _ => v = S2
  | 11, v, _ => v = .pointer (some ⟨X, 2, none⟩)
  | 12, v, _ => v = S2
  | 13, v, _ => v = .int .i64 (n2 : Int)
  | 14, v, _ => v = .int .i64 (m2 : Int)
  | 15, v, _ => v = T2
  | 16, v, _ => v = .pointer (some ⟨X, 5, none⟩)
  | 17, v, _ => v = S5
  | 18, v, _ => v = .pointer (some ⟨X, 5, none⟩)
  | 19, v, _ => v = S5
  | 20, v, _ => v = .int .i64 (n5 : Int)
  | 21, v, _ => v = .int .i64 (m5 : Int)
  | 22, v, _ => v = T5
  | 23, v, _ => v = .pointer (some ⟨X, 4, none⟩)
  | 24, v, _ => v = S4
  | 25, v, _ => v = .pointer (some ⟨X, 4, none⟩)
  | 26, v, _ => v = S4
  | 27, v, _ => v = .int .i64 (n4 : Int)
  | 28, v, _ => v = .int .i64 (m4 : Int)
  | 29, v, _ => v = T4
  | 30, v, _ => v = .agg (ShV.cells ⟨pl, T1, T2, .slice none 0 0, T4, T5, .slice none 0 0⟩)
  | 31, v, w => ∃ p, v = .pointer (some ⟨p, 0, none⟩) ∧ H ≤ p ∧ Bs w p ShV.zero
  | _, _, _ => True
theorem BrJ.mono {X H : Nat} {pl : Bool} {S1 S2 S4 S5 : Value} {n1 n2 n4 n5 m1 m2 m4 m5 : Nat} {T1 T2 T4 T5 : Value} : ∀ (i : Nat) (v : Value) (w w' : World), Below w.heap.size w w' → BrJ X H pl S1 S2 S4 S5 n1 n2 n4 n5 m1 m2 m4 m5 T1 T2 T4 T5 i v w → BrJ X H pl S1 S2 S4 S5 n1 n2 n4 n5 m1 m2 m4 m5 T1 T2 T4 T5 i v w' := by
  intro i v w w' hb h
  unfold BrJ at h ⊢
  split <;> first | trivial | exact h | (obtain ⟨p, e, h1, h2⟩ := h; exact ⟨p, e, h1, h2.below hb h2.lt⟩)
theorem take_min {α : Type} {l : List α} {n k : Nat} (h : l.length = n) : l.take (min n k) = l.take k := by
  subst h
  rcases Nat.le_total l.length k with h | h
  · rw [Nat.min_eq_left h, List.take_of_length_le (Nat.le_refl _), List.take_of_length_le h]
  · rw [Nat.min_eq_right h]
set_option maxHeartbeats 4000000 in
theorem brought_any (V : ShV) (s : Pe.Shape) (w : World) (h : ShRd w w.heap.size V s) :
    Calls Tryz.prog 16 #[.agg V.cells] w (BrPost s w) := by
  obtain ⟨A1, n1, c1, e1, hr1⟩ := h.stub
  obtain ⟨A2, n2, c2, e2, hr2⟩ := h.fill
  obtain ⟨A4, n4, c4, e4, hr4⟩ := h.order
  obtain ⟨A5, n5, c5, e5, hr5⟩ := h.behind
  have hB0 : Bs (w.alloc (.cells V.cells 45)) w.heap.size V := Blk.new _ _ _
  obtain ⟨pl, hpl⟩ : ∃ pl, V.plus = pl := ⟨_, rfl⟩
  have q0 : (w.alloc (.cells V.cells 45)).cell? ⟨w.heap.size, 0, none⟩ = some (.bool pl) := by rw [← hpl]; exact hB0.cell 0
  have q1 : (w.alloc (.cells V.cells 45)).cell? ⟨w.heap.size, 1, none⟩ = some (.slice A1 n1 c1) := by rw [← e1]; exact hB0.cell 1
  have q2 : (w.alloc (.cells V.cells 45)).cell? ⟨w.heap.size, 2, none⟩ = some (.slice A2 n2 c2) := by rw [← e2]; exact hB0.cell 2
  have q4 : (w.alloc (.cells V.cells 45)).cell? ⟨w.heap.size, 4, none⟩ = some (.slice A4 n4 c4) := by rw [← e4]; exact hB0.cell 4
  have q5 : (w.alloc (.cells V.cells 45)).cell? ⟨w.heap.size, 5, none⟩ = some (.slice A5 n5 c5) := by rw [← e5]; exact hB0.cell 5
  obtain ⟨m1, hm1⟩ : ∃ m, min n1 200 = m := ⟨_, rfl⟩
  obtain ⟨m2, hm2⟩ : ∃ m, min n2 200 = m := ⟨_, rfl⟩
  obtain ⟨m4, hm4⟩ : ∃ m, min n4 20 = m := ⟨_, rfl⟩
  obtain ⟨m5, hm5⟩ : ∃ m, min n5 500 = m := ⟨_, rfl⟩
  obtain ⟨B1, d1, x1, s1, t1⟩ := run_upto hr1 m1 (m1 : Int) rfl (by omega)
  obtain ⟨B2, d2, x2, s2, t2⟩ := run_upto hr2 m2 (m2 : Int) rfl (by omega)
  obtain ⟨B5, d5, x5, s5, t5⟩ := run_upto hr5 m5 (m5 : Int) rfl (by omega)
  obtain ⟨B4, d4, x4, s4, t4⟩ := run_uptoI hr4 m4 (m4 : Int) rfl (by omega)
  have i1 : (if (200 : Int) < (n1 : Int) then (200 : Int) else (n1 : Int)) = (m1 : Int) := by rw [← hm1]; split <;> omega
  have i2 : (if (200 : Int) < (n2 : Int) then (200 : Int) else (n2 : Int)) = (m2 : Int) := by rw [← hm2]; split <;> omega
  have i4 : (if (20 : Int) < (n4 : Int) then (20 : Int) else (n4 : Int)) = (m4 : Int) := by rw [← hm4]; split <;> omega
  have i5 : (if (500 : Int) < (n5 : Int) then (500 : Int) else (n5 : Int)) = (m5 : Int) := by rw [← hm5]; split <;> omega
  have y1 : s.stub.take m1 = s.stub.take 200 := by rw [← hm1]; exact take_min hr1.len
  have y2 : s.fill.take m2 = s.fill.take 200 := by rw [← hm2]; exact take_min hr2.len
  have y5 : s.behind.take m5 = s.behind.take 500 := by rw [← hm5]; exact take_min hr5.len
  have y4 : s.order.take m4 = s.order.take 20 := by rw [← hm4]; exact take_min hr4.len
  rw [y1] at x1
  rw [y2] at x2
  rw [y5] at x5
  rw [y4] at x4
  clear y1 y2 y5 y4
  have H := Lib.hid (And.intro h (And.intro hB0 (And.intro x1 (And.intro x2 (And.intro x5 (And.intro x4 (And.intro hm1 (And.intro hm2 (And.intro hm4 (And.intro hm5 (And.intro hpl (And.intro e1 (And.intro e2 (And.intro e4 e5))))))))))))))
  clear h hB0 x1 x2 x5 x4 hm1 hm2 hm4 hm5 hr1 hr2 hr4 hr5 e1 e2 e4 e5 hpl
  go_enter Tryz.func16, Tryz.ntmps16
  go_upto_region 1 with fail
  have hzc : ShV.zero.cells = #[Value.bool false, .slice none 0 0, .slice none 0 0, .slice none 0 0, .slice none 0 0, .slice none 0 0, .slice none 0 0] := rfl
  obtain ⟨W2, hW2⟩ : ∃ W2, (w.alloc (.cells V.cells 45)).alloc (.cells #[Value.bool false, .slice none 0 0, .slice none 0 0, .slice none 0 0, .slice none 0 0, .slice none 0 0, .slice none 0 0] 45) = W2 := ⟨_, rfl⟩
  rw [hW2]
  have hB2 : Bs W2 w.heap.size V := by rw [← hW2]; exact H.out.2.1.alloc _
  have hR2 : Bs W2 (w.heap.size + 1) ShV.zero := by
    rw [← hW2]
    have := Blk.new (w.alloc (.cells V.cells 45)) 45 ShV.zero.cells
    rw [World.size_alloc] at this
    exact this
  have hbw2 : Below w.heap.size w W2 := by rw [← hW2]; exact ((Below.refl _ _).alloc (Nat.le_refl _) _).alloc (by simp) _
  have hs2 : W2.heap.size = w.heap.size + 2 := by rw [← hW2]; simp
  have hcells : ∀ W, Below W2.heap.size W2 W → W.cell? ⟨w.heap.size, 0, none⟩ = some (.bool pl) ∧ W.cell? ⟨w.heap.size, 1, none⟩ = some (.slice A1 n1 c1) ∧ W.cell? ⟨w.heap.size, 2, none⟩ = some (.slice A2 n2 c2) ∧ W.cell? ⟨w.heap.size, 4, none⟩ = some (.slice A4 n4 c4) ∧ W.cell? ⟨w.heap.size, 5, none⟩ = some (.slice A5 n5 c5) := fun W hb => by
    have hB : Bs W w.heap.size V := hB2.below hb (by omega)
    have hv := H.out.2.2.2.2.2.2.2.2.2.2
    exact ⟨(hB.cell 0).trans (by rw [← hv.1]; rfl), (hB.cell 1).trans (by rw [← hv.2.1]; rfl), (hB.cell 2).trans (by rw [← hv.2.2.1]; rfl), (hB.cell 4).trans (by rw [← hv.2.2.2.1]; rfl), (hB.cell 5).trans (by rw [← hv.2.2.2.2]; rfl)⟩
  have HC := Lib.hid hcells
  have H2 := Lib.hid (And.intro hB2 (And.intro hR2 (And.intro hbw2 hs2)))
  clear hcells hW2 hB2 hR2 hbw2 hs2 q0 q1 q2 q4 q5
  have hone : ShV.One ⟨pl, .slice B1 m1 d1, .slice B2 m2 d2, .slice none 0 0, .slice B4 m4 d4, .slice B5 m5 d5, .slice none 0 0⟩ := by
    intro v hv
    simp only [ShV.cells, List.mem_cons, List.not_mem_nil, or_false] at hv
    rcases hv with rfl | rfl | rfl | rfl | rfl | rfl | rfl <;> rfl
  go_cut [3] from 7 (fun s3 wx => ∃ p, s3 = Value.pointer (some ⟨p, 0, none⟩) ∧ W2.heap.size ≤ p ∧ Bs wx p ⟨pl, .slice B1 m1 d1, .slice B2 m2 d2, .slice none 0 0, .slice B4 m4 d4, .slice B5 m5 d5, .slice none 0 0⟩ ∧ Below W2.heap.size W2 wx)
  case first =>
    refine wp_region_last 32 (BrJ w.heap.size W2.heap.size pl (.slice A1 n1 c1) (.slice A2 n2 c2) (.slice A4 n4 c4) (.slice A5 n5 c5) n1 n2 n4 n5 m1 m2 m4 m5 (.slice B1 m1 d1) (.slice B2 m2 d2) (.slice B4 m4 d4) (.slice B5 m5 d5)) (Below W2.heap.size W2) (fun x y => Below x.heap.size x y) rfl BrJ.mono (fun w w' h1 h2 => h1.trans (h2.mono h1.size)) (by show dstsOk _ 107 = true; decide +kernel) (by decide +kernel) (by decide +kernel) (by decide +kernel) (Below.refl _ _).drew ⟨?_, ?_, ?_, ?_, ?_, ?_, ?_, ?_, ?_, ?_, ?_, ?_, ?_, ?_, ?_, ?_, ?_, ?_, ?_, ?_, ?_, ?_, ?_, ?_, ?_, ?_, ?_, ?_, ?_, ?_, ?_, ?_, trivial⟩ ?_
    · intro a' W hfr hG hdep; refine J_of (by simp) (fun _ => rfl) ?_; have d := hfr 1 (by decide +kernel); refine F_val ?_ trivial (Below.refl _ _); simp only [execOp, d]; simp [go_sem, Act.eval]
    · intro a' W hfr hG hdep; refine J_of (by simp) (fun _ => rfl) ?_; have d : a'.eval (.tmp 7) = _ := hdep 0 (by decide +kernel); exact F_load rfl d (load_boolS (HC.out W hG).1) trivial (Below.refl _ _)
    · intro a' W hfr hG hdep; refine J_of (by simp) (fun _ => rfl) ?_; have d := hfr 1 (by decide +kernel); refine F_val ?_ trivial (Below.refl _ _); simp only [execOp, d]; simp [go_sem, Act.eval]
    · intro a' W hfr hG hdep; refine J_of (by simp) (fun _ => rfl) ?_; have d : a'.eval (.tmp 9) = _ := hdep 2 (by decide +kernel); exact F_load rfl d (load_bytesR (HC.out W hG).2.1) trivial (Below.refl _ _)
    · intro a' W hfr hG hdep; refine J_of (by simp) (fun _ => rfl) ?_; have d := hfr 1 (by decide +kernel); refine F_val ?_ trivial (Below.refl _ _); simp only [execOp, d]; simp [go_sem, Act.eval]
    · intro a' W hfr hG hdep; refine J_of (by simp) (fun _ => rfl) ?_; have d : a'.eval (.tmp 11) = _ := hdep 4 (by decide +kernel); exact F_load rfl d (load_bytesR (HC.out W hG).2.1) trivial (Below.refl _ _)
    · intro a' W hfr hG hdep; refine J_of (by simp) (fun _ => rfl) ?_; have d : a'.eval (.tmp 12) = .slice A1 n1 c1 := hdep 5 (by decide +kernel); exact F_len rfl d trivial (Below.refl _ _)
    · intro a' W hfr hG hdep; refine J_of (by simp) (fun _ => rfl) ?_; have d : a'.eval (.tmp 13) = .int .i64 (n1 : Int) := hdep 6 (by decide +kernel); exact F_min rfl d rfl i1 trivial (Below.refl _ _)
    · intro a' W hfr hG hdep; refine J_of (by simp) (fun _ => rfl) ?_; have d : a'.eval (.tmp 10) = .slice A1 n1 c1 := hdep 3 (by decide +kernel); have d' : a'.eval (.tmp 14) = .int .i64 (m1 : Int) := hdep 7 (by decide +kernel); refine F_val ?_ trivial (Below.refl _ _); simp only [execOp, d, d', Option.map_some, Option.map_none]; simp [s1, t1]
    · intro a' W hfr hG hdep; refine J_of (by simp) (fun _ => rfl) ?_; have d := hfr 1 (by decide +kernel); refine F_val ?_ trivial (Below.refl _ _); simp only [execOp, d]; simp [go_sem, Act.eval]
    · intro a' W hfr hG hdep; refine J_of (by simp) (fun _ => rfl) ?_; have d : a'.eval (.tmp 16) = _ := hdep 9 (by decide +kernel); exact F_load rfl d (load_bytesR (HC.out W hG).2.2.1) trivial (Below.refl _ _)
    · intro a' W hfr hG hdep; refine J_of (by simp) (fun _ => rfl) ?_; have d := hfr 1 (by decide +kernel); refine F_val ?_ trivial (Below.refl _ _); simp only [execOp, d]; simp [go_sem, Act.eval]
    · intro a' W hfr hG hdep; refine J_of (by simp) (fun _ => rfl) ?_; have d : a'.eval (.tmp 18) = _ := hdep 11 (by decide +kernel); exact F_load rfl d (load_bytesR (HC.out W hG).2.2.1) trivial (Below.refl _ _)
    · intro a' W hfr hG hdep; refine J_of (by simp) (fun _ => rfl) ?_; have d : a'.eval (.tmp 19) = .slice A2 n2 c2 := hdep 12 (by decide +kernel); exact F_len rfl d trivial (Below.refl _ _)
    · intro a' W hfr hG hdep; refine J_of (by simp) (fun _ => rfl) ?_; have d : a'.eval (.tmp 20) = .int .i64 (n2 : Int) := hdep 13 (by decide +kernel); exact F_min rfl d rfl i2 trivial (Below.refl _ _)
    · intro a' W hfr hG hdep; refine J_of (by simp) (fun _ => rfl) ?_; have d : a'.eval (.tmp 17) = .slice A2 n2 c2 := hdep 10 (by decide +kernel); have d' : a'.eval (.tmp 21) = .int .i64 (m2 : Int) := hdep 14 (by decide +kernel); refine F_val ?_ trivial (Below.refl _ _); simp only [execOp, d, d', Option.map_some, Option.map_none]; simp [s2, t2]
    · intro a' W hfr hG hdep; refine J_of (by simp) (fun _ => rfl) ?_; have d := hfr 1 (by decide +kernel); refine F_val ?_ trivial (Below.refl _ _); simp only [execOp, d]; simp [go_sem, Act.eval]
    · intro a' W hfr hG hdep; refine J_of (by simp) (fun _ => rfl) ?_; have d : a'.eval (.tmp 23) = _ := hdep 16 (by decide +kernel); exact F_load rfl d (load_bytesR (HC.out W hG).2.2.2.2) trivial (Below.refl _ _)
    · intro a' W hfr hG hdep; refine J_of (by simp) (fun _ => rfl) ?_; have d := hfr 1 (by decide +kernel); refine F_val ?_ trivial (Below.refl _ _); simp only [execOp, d]; simp [go_sem, Act.eval]
    · intro a' W hfr hG hdep; refine J_of (by simp) (fun _ => rfl) ?_; have d : a'.eval (.tmp 25) = _ := hdep 18 (by decide +kernel); exact F_load rfl d (load_bytesR (HC.out W hG).2.2.2.2) trivial (Below.refl _ _)
    · intro a' W hfr hG hdep; refine J_of (by simp) (fun _ => rfl) ?_; have d : a'.eval (.tmp 26) = .slice A5 n5 c5 := hdep 19 (by decide +kernel); exact F_len rfl d trivial (Below.refl _ _)
    · intro a' W hfr hG hdep; refine J_of (by simp) (fun _ => rfl) ?_; have d : a'.eval (.tmp 27) = .int .i64 (n5 : Int) := hdep 20 (by decide +kernel); exact F_min rfl d rfl i5 trivial (Below.refl _ _)
    · intro a' W hfr hG hdep; refine J_of (by simp) (fun _ => rfl) ?_; have d : a'.eval (.tmp 24) = .slice A5 n5 c5 := hdep 17 (by decide +kernel); have d' : a'.eval (.tmp 28) = .int .i64 (m5 : Int) := hdep 21 (by decide +kernel); refine F_val ?_ trivial (Below.refl _ _); simp only [execOp, d, d', Option.map_some, Option.map_none]; simp [s5, t5]
    · intro a' W hfr hG hdep; refine J_of (by simp) (fun _ => rfl) ?_; have d := hfr 1 (by decide +kernel); refine F_val ?_ trivial (Below.refl _ _); simp only [execOp, d]; simp [go_sem, Act.eval]
    · intro a' W hfr hG hdep; refine J_of (by simp) (fun _ => rfl) ?_; have d : a'.eval (.tmp 30) = _ := hdep 23 (by decide +kernel); exact F_load rfl d (load_intsS (HC.out W hG).2.2.2.1) trivial (Below.refl _ _)
    · intro a' W hfr hG hdep; refine J_of (by simp) (fun _ => rfl) ?_; have d := hfr 1 (by decide +kernel); refine F_val ?_ trivial (Below.refl _ _); simp only [execOp, d]; simp [go_sem, Act.eval]
    · intro a' W hfr hG hdep; refine J_of (by simp) (fun _ => rfl) ?_; have d : a'.eval (.tmp 32) = _ := hdep 25 (by decide +kernel); exact F_load rfl d (load_intsS (HC.out W hG).2.2.2.1) trivial (Below.refl _ _)
    · intro a' W hfr hG hdep; refine J_of (by simp) (fun _ => rfl) ?_; have d : a'.eval (.tmp 33) = .slice A4 n4 c4 := hdep 26 (by decide +kernel); exact F_lenI rfl d trivial (Below.refl _ _)
    · intro a' W hfr hG hdep; refine J_of (by simp) (fun _ => rfl) ?_; have d : a'.eval (.tmp 34) = .int .i64 (n4 : Int) := hdep 27 (by decide +kernel); exact F_min rfl d rfl i4 trivial (Below.refl _ _)
    · intro a' W hfr hG hdep; refine J_of (by simp) (fun _ => rfl) ?_; have d : a'.eval (.tmp 31) = .slice A4 n4 c4 := hdep 24 (by decide +kernel); have d' : a'.eval (.tmp 35) = .int .i64 (m4 : Int) := hdep 28 (by decide +kernel); refine F_val ?_ trivial (Below.refl _ _); simp only [execOp, d, d', Option.map_some, Option.map_none]; simp [s4, t4]
    · intro a' W hfr hG hdep; refine J_of (by simp) (fun _ => rfl) ?_; have b0 : a'.eval (.tmp 8) = .bool pl := hdep 1 (by decide +kernel); have b1 : a'.eval (.tmp 15) = .slice B1 m1 d1 := hdep 8 (by decide +kernel); have b2 : a'.eval (.tmp 22) = .slice B2 m2 d2 := hdep 15 (by decide +kernel); have b5 : a'.eval (.tmp 29) = .slice B5 m5 d5 := hdep 22 (by decide +kernel); have b4 : a'.eval (.tmp 36) = .slice B4 m4 d4 := hdep 29 (by decide +kernel); refine F_val ?_ trivial (Below.refl _ _); simp [Act.eval] at b0 b1 b2 b4 b5; simp only [execOp]; simp [go_sem, Act.eval, b0, b1, b2, b4, b5]; rfl
    · intro a' W hfr hG hdep; exact K_alloc_sh rfl ⟨_, rfl, fun h => absurd h (by simp), ⟨W.heap.size, rfl, hG.size, Blk.new W _ _⟩, (Below.refl _ _).alloc (Nat.le_refl _) _⟩
    · intro o ho a' W hd hsz hfr hG hJ
      have e1 : o.op = .store 45 (.tmp 3) (.tmp 37) ∧ o.dst = none := by cases ho; exact ⟨rfl, rfl⟩
      clear ho
      obtain ⟨p, hp, hpl, hpz⟩ : ∃ p, a'.eval (.tmp 3) = .pointer (some ⟨p, 0, none⟩) ∧ W2.heap.size ≤ p ∧ Bs W p ShV.zero := hJ 31 (by decide)
      have hv37 : a'.eval (.tmp 37) = .agg (ShV.cells ⟨pl, .slice B1 m1 d1, .slice B2 m2 d2, .slice none 0 0, .slice B4 m4 d4, .slice B5 m5 d5, .slice none 0 0⟩) := hJ 30 (by decide)
      refine wp_store_sh _ _ e1.1 p ShV.zero _ hp hv37 hpz hone ?_
      intro w' hB' hg'
      rw [e1.2]
      have hfin : Below W2.heap.size W2 w' := hG.grown hg' hG.size (fun j e => by injection e with e; omega)
      have HF := Lib.hid (And.intro hpl (And.intro hB' hfin))
      obtain ⟨vs, hvs, e⟩ := act_of_some (by show dstsOk _ 107 = true; decide +kernel) hd hsz hfr
      have h31 : vs 31 = .pointer (some ⟨p, 0, none⟩) := (hvs 31).symm.trans hp
      clear hJ hfr hd hsz hG hvs hp hv37 hpz hB' hg' hfin e1
      have hrg : List.range 33 = [0, 1, 2, 3, 4, 5, 6, 7, 8, 9, 10, 11, 12, 13, 14, 15, 16, 17, 18, 19, 20, 21, 22, 23, 24, 25, 26, 27, 28, 29, 30, 31, 32] := rfl
      simp only [layAll, List.map_cons, List.map_nil, List.size_toArray, List.length_cons, List.length_nil, Nat.reduceAdd, hrg, List.zip_cons_cons, List.zip_nil_left, List.foldl_cons, List.foldl_nil, Act.put, List.setIfInBounds_toArray, List.set_cons_zero, List.set_cons_succ] at e
      subst e
      clear hrg
      apply_assumption
      go_meet
      exact ⟨p, h31, HF.out.1, HF.out.2.1, HF.out.2.2⟩
  obtain ⟨p, rfl, hp, hBp, hb⟩ := hcut
  apply_assumption
  have hlt : w.heap.size + 2 ≤ p := by have := H2.out.2.2.2; omega
  have hx : BX V s w p ⟨pl, .slice B1 m1 d1, .slice B2 m2 d2, .slice none 0 0, .slice B4 m4 d4, .slice B5 m5 d5, .slice none 0 0⟩ wc :=
    ⟨H.out.1, H2.out.1.below hb (by have := H2.out.2.2.2; omega), H2.out.2.1.below hb (by have := H2.out.2.2.2; omega), hBp, hlt, H2.out.2.2.1.trans (hb.mono (by have := H2.out.2.2.2; omega)), (by rw [← H.out.1.plus]; exact H.out.2.2.2.2.2.2.2.2.2.2.1.symm), RdV.mk H.out.2.2.1, RdV.mk H.out.2.2.2.1, ⟨_, _, _, rfl, H.out.2.2.2.2.2.1⟩, RdV.mk H.out.2.2.2.2.1, rfl, rfl⟩
  exact brought_tail1 hx _ _ _ _ _ _ _ _ _ _ _ _ _ _ _ _ _ _ _ _ _ _ _ _ _ _ _ _ _ _ _ _ _ _ _ _ _ _ _ _ _ _ _ _ _ _ _ _ _ _ _ _ _ _ _ _ _ _ _ _ _ _ _ _ _ _ _ _ _ _ _ _ _ _ _ _ _ _ _ _ _ _ _ _ _ _ _ _ _ _ _ _ _ _ _ _ _ _ _ _ _ _ _ _
end Go.Proofs.YtmpladnglfiejaaGreatDoor
