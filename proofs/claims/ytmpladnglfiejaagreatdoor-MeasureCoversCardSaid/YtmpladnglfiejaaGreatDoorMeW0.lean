/- The anchor: what Write(Brought(..)) of it says; its digest is not all 0. -/
import Derived.Test.YtmpladnglfiejaaGreatDoorMeR0
import Derived.Test.YtmpladnglfiejaaGreatDoorSh11
import Derived.Test.YtmpladnglfiejaaGreatDoorPJ
namespace Go.Proofs.YtmpladnglfiejaaGreatDoor
set_option maxRecDepth 1000000
set_option linter.unusedVariables false
namespace Pe
def anchor17 : Shape := { plus := false, stub := [], fill := [], bodies := [[1, 2]], order := [], behind := [], sigs := [[7]] }
theorem anchor17_err : err (write (brought anchor17)) = 0 := by decide +kernel
theorem anchor17_set : err ((write (brought anchor17)).set (opt (write (brought anchor17)) + 64) 99) = 0 ∧ hashed ((write (brought anchor17)).set (opt (write (brought anchor17)) + 64) 99) = hashed (write (brought anchor17)) ∧ opt (write (brought anchor17)) + 68 ≤ (write (brought anchor17)).length ∧ 4 ≤ (ranges (write (brought anchor17))).length ∧ 64 ≤ opt (write (brought anchor17)) + 64 := by decide +kernel
end Pe
theorem anchor17_sum : Sha.sum (Pe.hashed (Pe.write (Pe.brought Pe.anchor17))) ≠ List.replicate 32 0 := by decide +kernel
end Go.Proofs.YtmpladnglfiejaaGreatDoor
