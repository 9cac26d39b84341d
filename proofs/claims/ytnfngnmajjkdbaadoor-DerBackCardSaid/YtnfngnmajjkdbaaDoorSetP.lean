/- Plain: rows of bytes in their order; what a sorted row is; it is the only one. No program in sight. -/
import Derived.Test.YtnfngnmajjkdbaaDoorMem
import Derived.Test.YtnfngnmajjkdbaaDoorCmp
namespace Go.Proofs.YtnfngnmajjkdbaaDoor
open Go.RowKit

theorem bl_irrefl : ∀ a : List UInt8, Op.bytesLess a a = false
  | [] => rfl
  | x :: a => by simp [Op.bytesLess, bl_irrefl a]
theorem u8_tri (x y : UInt8) : (x < y ∧ ¬ y < x ∧ x ≠ y) ∨ (x = y ∧ ¬ x < y ∧ ¬ y < x) ∨ (y < x ∧ ¬ x < y ∧ x ≠ y) := by
  rcases Nat.lt_trichotomy x.toNat y.toNat with h | h | h
  · exact .inl ⟨h, fun h' => Nat.lt_asymm h h', fun e => by rw [e] at h; exact Nat.lt_irrefl _ h⟩
  · have e : x = y := UInt8.toNat_inj.1 h
    subst e
    exact .inr (.inl ⟨rfl, Nat.lt_irrefl _, Nat.lt_irrefl _⟩)
  · exact .inr (.inr ⟨h, fun h' => Nat.lt_asymm h h', fun e => by rw [e] at h; exact Nat.lt_irrefl _ h⟩)
theorem bl_trans : ∀ a b c : List UInt8, Op.bytesLess a b = true → Op.bytesLess b c = true → Op.bytesLess a c = true
  | _, [], _, h, _ => by cases ‹List UInt8› <;> simp [Op.bytesLess] at h
  | _, _ :: _, [], _, h => by simp [Op.bytesLess] at h
  | [], y :: b, z :: c, _, _ => rfl
  | x :: a, y :: b, z :: c, h1, h2 => by
    have ih := bl_trans a b c
    simp only [Op.bytesLess, Bool.or_eq_true, Bool.and_eq_true, decide_eq_true_eq, beq_iff_eq] at h1 h2 ⊢
    rcases h1 with h1 | ⟨rfl, h1⟩
    · rcases h2 with h2 | ⟨rfl, h2⟩
      · exact .inl (UInt8.lt_trans h1 h2)
      · exact .inl h1
    · rcases h2 with h2 | ⟨rfl, h2⟩
      · exact .inl h2
      · exact .inr ⟨rfl, ih h1 h2⟩
theorem bl_total : ∀ a b : List UInt8, Op.bytesLess a b = true ∨ a = b ∨ Op.bytesLess b a = true
  | [], [] => .inr (.inl rfl)
  | [], _ :: _ => .inl rfl
  | _ :: _, [] => .inr (.inr rfl)
  | x :: a, y :: b => by
    simp only [Op.bytesLess, Bool.or_eq_true, Bool.and_eq_true, decide_eq_true_eq, beq_iff_eq]
    rcases u8_tri x y with ⟨h, _⟩ | ⟨rfl, _⟩ | ⟨h, _⟩
    · exact .inl (.inl h)
    · rcases bl_total a b with h | rfl | h
      · exact .inl (.inr ⟨rfl, h⟩)
      · exact .inr (.inl rfl)
      · exact .inr (.inr (.inr ⟨rfl, h⟩))
    · exact .inr (.inr (.inl h))
theorem bl_anti (a b : List UInt8) (h1 : Op.bytesLess a b = false) (h2 : Op.bytesLess b a = false) : a = b := by
  rcases bl_total a b with h | h | h
  · rw [h] at h1; cases h1
  · exact h
  · rw [h] at h2; cases h2
theorem bl_asymm (a b : List UInt8) (h : Op.bytesLess a b = true) : Op.bytesLess b a = false := by
  cases h' : Op.bytesLess b a with
  | false => rfl
  | true => have := bl_trans _ _ _ h h'; rw [bl_irrefl] at this; cases this
theorem bl_ntrans (a b c : List UInt8) (h1 : Op.bytesLess a b = false) (h2 : Op.bytesLess b c = false) : Op.bytesLess a c = false := by
  rcases bl_total a b with h | rfl | h
  · rw [h] at h1; cases h1
  · exact h2
  · rcases bl_total b c with h' | rfl | h'
    · rw [h'] at h2; cases h2
    · exact h1
    · exact bl_asymm _ _ (bl_trans _ _ _ h' h)
/-- In their order: none is ahead of one before it. -/
def Ord (l : List (List UInt8)) : Prop := l.Pairwise fun a b => Op.bytesLess b a = false
theorem ord_unique {l l' : List (List UInt8)} (h : l.Perm l') (h1 : Ord l) (h2 : Ord l') : l = l' :=
  List.Perm.eq_of_pairwise (le := fun a b => Op.bytesLess b a = false) (fun a b _ _ x y => bl_anti a b y x) h1 h2 h
/-- Put in between. -/
theorem ord_put {s t : List (List UInt8)} {x : List UInt8} (h : Ord (s ++ t)) (hs : ∀ y, s.getLast? = some y → Op.bytesLess x y = false) (ht : ∀ y ∈ t, Op.bytesLess x y = true) : Ord (s ++ x :: t) := by
  unfold Ord at h ⊢
  rw [List.pairwise_append] at h ⊢
  refine ⟨h.1, List.pairwise_cons.2 ⟨fun y hy => bl_asymm _ _ (ht y hy), h.2.1⟩, fun y hy z hz => ?_⟩
  rcases List.mem_cons.1 hz with rfl | hz
  · rcases List.eq_nil_or_concat s with rfl | ⟨s', l, rfl⟩
    · cases hy
    · have hl : Op.bytesLess z l = false := hs l (by simp)
      rw [List.concat_eq_append] at hy h
      rcases List.mem_append.1 hy with hy | hy
      · have h' := (List.pairwise_append.1 h.1).2.2 y hy l (by simp)
        exact bl_ntrans _ _ _ hl h'
      · rw [List.mem_singleton] at hy
        subst hy
        exact hl
  · exact h.2.2 y hy z hz

theorem cmp_neg : ∀ (a b : List UInt8), decide (Lib.compareBytes a b < 0) = Op.bytesLess a b
  | [], [] => rfl
  | [], _ :: _ => by simp [Op.bytesLess, Lib.compareBytes]
  | _ :: _, [] => by simp [Op.bytesLess, Lib.compareBytes]
  | x :: a, y :: b => by
    have ih := cmp_neg a b
    simp only [Op.bytesLess, Lib.compareBytes]
    rcases u8_tri x y with ⟨h1, h2, h3⟩ | ⟨rfl, h1, h2⟩ | ⟨h1, h2, h3⟩
    · simp [h1]
    · simp [ih, h1]
    · simp [h1, h2, h3]
end Go.Proofs.YtnfngnmajjkdbaaDoor
