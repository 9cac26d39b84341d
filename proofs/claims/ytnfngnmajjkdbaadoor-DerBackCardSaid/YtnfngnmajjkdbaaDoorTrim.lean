/- Plain laws of noughts ahead of a number. -/
import Derived.Test.YtnfngnmajjkdbaaDoorLit
namespace Go.Proofs.YtnfngnmajjkdbaaDoor
open Go.RowKit

/-- Without the noughts ahead. -/
def Der.trim (xs : List UInt8) : List UInt8 := xs.dropWhile (· == 0)
def Der.putInt (xs : List UInt8) : List UInt8 := if Der.trim xs = [] ∨ 128 ≤ ((Der.trim xs).headD 0).toNat then 0 :: Der.trim xs else Der.trim xs
theorem trim_cons0 (xs : List UInt8) : Der.trim (0 :: xs) = Der.trim xs := rfl
theorem trim_stop {x : UInt8} (xs : List UInt8) (h : x ≠ 0) : Der.trim (x :: xs) = x :: xs := by
  unfold Der.trim
  rw [List.dropWhile_cons, if_neg (by simpa using h)]
theorem trim_len (xs : List UInt8) : (Der.trim xs).length ≤ xs.length := by
  induction xs with
  | nil => simp [Der.trim]
  | cons x xs ih =>
    by_cases h : x = 0
    · subst h; rw [trim_cons0]; simp; omega
    · rw [trim_stop xs h]; exact Nat.le_refl _

end Go.Proofs.YtnfngnmajjkdbaaDoor
