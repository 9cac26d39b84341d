/- The anchor's shape, as the program builds it. -/
import Derived.Test.YtmpladnglfiejaaGreatDoorMeW0
namespace Go.Proofs.YtmpladnglfiejaaGreatDoor
open Go.RowKit
set_option maxRecDepth 100000
set_option linter.unusedVariables false
set_option linter.unusedSimpArgs false
theorem anchor17_sh {w w1 w2 w3 w4 : World} (h1 : w1 = w.alloc (.cells #[.int .u8 1, .int .u8 2] 5))
    (h2 : w2 = w1.alloc (.cells #[.slice (some ⟨w.heap.size, 0, none⟩) 2 2] 22))
    (h3 : w3 = w2.alloc (.cells #[.int .u8 7] 5)) (h4 : w4 = w3.alloc (.cells #[.slice (some ⟨w.heap.size + 1 + 1, 0, none⟩) 1 1] 22)) :
    ShRd w4 w4.heap.size ⟨false, .slice none 0 0, .slice none 0 0, .slice (some ⟨w.heap.size + 1, 0, none⟩) 1 1, .slice none 0 0, .slice none 0 0, .slice (some ⟨w.heap.size + 1 + 1 + 1, 0, none⟩) 1 1⟩ Pe.anchor17 := by
  have s1 : w1.heap.size = w.heap.size + 1 := by rw [h1]; simp
  have s2 : w2.heap.size = w.heap.size + 1 + 1 := by rw [h2, World.size_alloc, s1]
  have s3 : w3.heap.size = w.heap.size + 1 + 1 + 1 := by rw [h3, World.size_alloc, s2]
  have b23 : Below w2.heap.size w2 w3 := by rw [h3]; exact below_one _ _
  have b34 : Below w3.heap.size w3 w4 := by rw [h4]; exact below_one _ _
  have r1 : RdV w1 w1.heap.size (.slice (some ⟨w.heap.size, 0, none⟩) 2 2) [1, 2] := by
    rw [h1]; exact rdv_lit w [1, 2] _ _ 2 rfl rfl rfl (by omega)
  have rb : RdLV w2 w2.heap.size (.slice (some ⟨w.heap.size + 1, 0, none⟩) 1 1) [[1, 2]] := by
    have := RdL.lit w1 22 [(.slice (some ⟨w.heap.size, 0, none⟩) 2 2, [1, 2])] _ (w.heap.size + 1) 1 s1.symm rfl rfl (by omega) (fun v xs hm => by
      simp only [List.mem_cons, List.not_mem_nil, or_false, Prod.mk.injEq] at hm
      obtain ⟨rfl, rfl⟩ := hm
      exact r1)
    rw [h2]
    exact ⟨_, _, _, _, rfl, this, rfl⟩
  have r7 : RdV w3 w3.heap.size (.slice (some ⟨w.heap.size + 1 + 1, 0, none⟩) 1 1) [7] := by
    rw [h3]; exact rdv_lit w2 [7] _ _ 1 s2.symm rfl rfl (by omega)
  have rs : RdLV w4 w4.heap.size (.slice (some ⟨w.heap.size + 1 + 1 + 1, 0, none⟩) 1 1) [[7]] := by
    have := RdL.lit w3 22 [(.slice (some ⟨w.heap.size + 1 + 1, 0, none⟩) 1 1, [7])] _ (w.heap.size + 1 + 1 + 1) 1 s3.symm rfl rfl (by omega) (fun v xs hm => by
      simp only [List.mem_cons, List.not_mem_nil, or_false, Prod.mk.injEq] at hm
      obtain ⟨rfl, rfl⟩ := hm
      exact r7)
    rw [h4]
    exact ⟨_, _, _, _, rfl, this, rfl⟩
  exact ⟨rfl, rdv_nil _ _, rdv_nil _ _, rdlv_up (rdlv_up rb b23) b34, ⟨none, 0, 0, rfl, ⟨rfl, Nat.le_refl _, by omega, fun h => absurd h (by omega), Reads.none_⟩⟩, rdv_nil _ _, rs⟩
end Go.Proofs.YtmpladnglfiejaaGreatDoor
