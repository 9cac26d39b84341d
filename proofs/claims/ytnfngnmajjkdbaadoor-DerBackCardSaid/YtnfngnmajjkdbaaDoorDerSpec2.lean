/- What der.Write computes, in plain Lean. -/
import Derived.Test.YtnfngnmajjkdbaaDoorDerSpec
namespace Go.Proofs.YtnfngnmajjkdbaaDoor
namespace Der
/-- A number's bytes, the lowest first. -/
def leB (n : Nat) : List UInt8 := if n = 0 then [] else UInt8.ofNat n :: leB (n / 256)
termination_by n
decreasing_by omega
theorem leB_zero : leB 0 = [] := by rw [leB]; rfl
theorem leB_pos {n : Nat} (h : 0 < n) : leB n = UInt8.ofNat n :: leB (n / 256) := by rw [leB, if_neg (by omega)]
theorem leB_le : ∀ (k n : Nat), n < 256 ^ k → (leB n).length ≤ k
  | 0, n, h => by simp at h; subst h; rw [leB_zero]; simp
  | k + 1, n, h => by
    rcases Nat.eq_zero_or_pos n with h0 | h0
    · subst h0; rw [leB_zero]; simp
    · rw [leB_pos h0, List.length_cons]
      have := leB_le k (n / 256) (by rw [Nat.pow_succ] at h; omega)
      omega
/-- The bytes ahead of a body of n bytes, the tag aside. -/
def lenB (n : Nat) : List UInt8 := if n < 128 then [UInt8.ofNat n] else UInt8.ofNat (128 + (leB n).length) :: (leB n).reverse
def write (t : UInt8) (body : List UInt8) : List UInt8 := t :: lenB body.length ++ body
end Der
end Go.Proofs.YtnfngnmajjkdbaaDoor
