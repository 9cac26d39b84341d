/- Plain laws of DerBack: numbers there and back. (Tested at the CERT seat with GO in place of PlainInt.) -/
import Derived.Test.YtnfngnmajjkdbaaDoorPlainInt
namespace Go.Proofs.YtnfngnmajjkdbaaDoor

theorem trim_idem (xs : List UInt8) : Der.trim (Der.trim xs) = Der.trim xs := by
  obtain ⟨F, h1, h2, h3, h4⟩ := trim_drop xs
  cases hy : Der.trim xs with
  | nil => rfl
  | cons y ys =>
    have hne : y ≠ 0 := h4 y (by
      have : (xs.drop F)[0]? = some y := by rw [← h2, hy]; rfl
      simpa using this)
    exact trim_stop ys hne
theorem putInt_trim (xs : List UInt8) : Der.putInt (Der.trim xs) = Der.putInt xs := by
  rw [Der.putInt, Der.putInt, trim_idem]
/-- What is read as a number is written as it was; the number has no nought ahead. -/
theorem int_back {b n : List UInt8} (h : Der.int b = some n) : Der.putInt n = b ∧ n.head? ≠ some 0 := by
  have key : ∀ (y : UInt8) (ys : List UInt8), y ≠ 0 → Der.trim (y :: ys) = y :: ys := fun y ys hy => trim_stop ys hy
  cases b with
  | nil => simp [Der.int] at h
  | cons b0 r =>
    simp only [Der.int] at h
    by_cases h1 : 128 ≤ b0.toNat
    · rw [if_pos h1] at h; cases h
    · rw [if_neg h1] at h
      by_cases h2 : b0.toNat = 0
      · have e0 : b0 = 0 := UInt8.toNat_inj.1 h2
        subst e0
        rw [if_pos h2] at h
        cases r with
        | nil =>
          injection h with h
          subst h
          exact ⟨by decide, by simp⟩
        | cons b1 r =>
          simp only at h
          by_cases h3 : b1.toNat < 128
          · rw [if_pos h3] at h; cases h
          · rw [if_neg h3] at h
            injection h with h
            subst h
            have hb1 : b1 ≠ 0 := fun e => by rw [e] at h3; exact h3 (by decide)
            refine ⟨?_, by simpa using hb1⟩
            rw [Der.putInt, key b1 r hb1]
            simp; omega
      · rw [if_neg h2] at h
        injection h with h
        subst h
        have hb0 : b0 ≠ 0 := fun e => h2 (by rw [e]; rfl)
        refine ⟨?_, by simpa using hb0⟩
        rw [Der.putInt, key b0 r hb0]
        simp; omega
end Go.Proofs.YtnfngnmajjkdbaaDoor
