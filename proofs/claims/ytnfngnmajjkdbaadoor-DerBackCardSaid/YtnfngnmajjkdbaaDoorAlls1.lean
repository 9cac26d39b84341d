/- What an order of elements is. -/
import Derived.Test.YtnfngnmajjkdbaaDoorAll2
import Derived.Test.YtnfngnmajjkdbaaDoorCmp
namespace Go.Proofs.YtnfngnmajjkdbaaDoor
open Go.RowKit
set_option maxRecDepth 100000
set_option linter.unusedVariables false
set_option linter.unusedSimpArgs false

namespace Der
/-- Elements that are right, none behind one that is ahead of it by its bytes. -/
def chain : List UInt8 → List (Option (UInt8 × List UInt8 × List UInt8)) → Bool
  | _, [] => true
  | _, none :: _ => false
  | last, some (_, _, r) :: tl => !Op.bytesLess r last && chain r tl
theorem less_nil (r : List UInt8) : Op.bytesLess r [] = false := by cases r <;> rfl
theorem chain_none : ∀ (l : List (Option (UInt8 × List UInt8 × List UInt8))) (last : List UInt8), l.any (·.isNone) = true → chain last l = false
  | [], _, h => by simp at h
  | none :: _, _, _ => rfl
  | some (_, _, r) :: tl, last, h => by
    have ih := chain_none tl r (by simpa using h)
    simp [chain, ih]
end Der
end Go.Proofs.YtnfngnmajjkdbaaDoor
