/- Plain: Int of PutInt. -/
import Derived.Test.YtnfngnmajjkdbaaDoorTrim
import Derived.Test.YtnfngnmajjkdbaaDoorInt
namespace Go.Proofs.YtnfngnmajjkdbaaDoor
open Go.RowKit
set_option maxRecDepth 100000

/-- Where the noughts end. -/
theorem trim_drop (xs : List UInt8) : ∃ F, F ≤ xs.length ∧ Der.trim xs = xs.drop F ∧ (∀ k, k < F → xs[k]? = some 0) ∧ ∀ x, xs[F]? = some x → x ≠ 0 := by
  induction xs with
  | nil => exact ⟨0, Nat.le_refl _, rfl, fun k h => by omega, fun x h => by simp at h⟩
  | cons x xs ih =>
    by_cases h : x = 0
    · subst h
      obtain ⟨F, h1, h2, h3, h4⟩ := ih
      refine ⟨F + 1, by simp; omega, by rw [trim_cons0, h2]; rfl, fun k hk => ?_, fun x hx => h4 x (by simpa using hx)⟩
      cases k with
      | zero => rfl
      | succ k => simpa using h3 k (by omega)
    · refine ⟨0, by omega, by rw [trim_stop xs h]; rfl, fun k h => by omega, fun y hy => ?_⟩
      simp at hy
      rw [← hy]; exact h
theorem int_putInt (xs : List UInt8) : Der.int (Der.putInt xs) = some (Der.trim xs) := by
  obtain ⟨F, h1, h2, h3, h4⟩ := trim_drop xs
  unfold Der.putInt
  cases hy : Der.trim xs with
  | nil => simp [Der.int]
  | cons y ys =>
    have hne : y ≠ 0 := h4 y (by
      have : (xs.drop F)[0]? = some y := by rw [← h2, hy]; rfl
      simpa using this)
    have hn0 : y.toNat ≠ 0 := fun e => hne (UInt8.toNat_inj.1 e)
    by_cases h : 128 ≤ y.toNat
    · rw [if_pos (.inr (by simpa using h))]
      simp only [Der.int]
      rw [if_neg (by simp), if_pos (by simp), if_neg (by omega)]
    · rw [if_neg (by simp; omega)]
      simp only [Der.int]
      rw [if_neg h, if_neg hn0]
end Go.Proofs.YtnfngnmajjkdbaaDoor
