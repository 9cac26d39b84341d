/- SHA-256 of the program: a copy of a state is built. -/
import Derived.Test.YtmpladnglfiejaaGreatDoorSh9
namespace Go.Proofs.YtmpladnglfiejaaGreatDoor
open Go.RowKit
set_option maxRecDepth 100000
set_option linter.unusedVariables false
set_option linter.unusedSimpArgs false
theorem fold_lay (off : Nat) : ∀ (l : List Value) (k : Nat) (cs : Array Value), off + k + l.length ≤ cs.size → (l.zipIdx k).foldl (fun cs x => cs.setIfInBounds (off + x.snd) x.fst) cs = layAt cs (off + k) l
  | [], k, cs, h => by
    unfold layAt
    simp
  | x :: l, k, cs, h => by
    rw [List.zipIdx_cons, List.foldl_cons, fold_lay off l (k + 1) _ (by simp; simp at h; omega)]
    simp only [List.length_cons] at h
    unfold layAt
    congr 1
    rw [Array.toList_setIfInBounds, show off + (k + 1) = (off + k) + 1 by omega]
    have e1 : ((cs.toList.set (off + k) x).take (off + k + 1)) = cs.toList.take (off + k) ++ [x] := by
      rw [List.take_set, List.take_add_one]
      have hlt : off + k < cs.toList.length := by simp; omega
      rw [List.getElem?_eq_getElem hlt]
      rw [List.set_append_right _ _ (by simp; omega)]
      simp [Nat.min_eq_left (Nat.le_of_lt (show off + k < cs.size by simpa using hlt))]
      try omega
    rw [e1, List.drop_set_of_lt (by omega), List.length_cons, show off + k + 1 + l.length = off + k + (l.length + 1) by omega]
    simp
theorem stL_layK {made : Bool} {K H : List Int} {rest : Value} {n : Int} (hK : K.length = 64) {K' : List Int} (hK' : K'.length = 64) : layAt (stL made K H rest n).toArray 1 (K'.map u32v) = (stL made K' H rest n).toArray := by
  unfold layAt stL
  congr 1
  simp only [List.length_map, hK', List.toList_toArray]
  rw [show (1 : Nat) = 0 + 1 from rfl, List.take_succ_cons, List.take_zero, show 0 + 1 + 64 = 64 + 1 from rfl, List.drop_succ_cons, List.drop_append, List.drop_eq_nil_of_le (by simp; omega), List.length_map, hK]
  simp
theorem build_st {K H : List Int} (hK : K.length = 64) (hH : H.length = 8) (A : Option Addr) (n c : Nat) (W : World) :
    (Instr.build 75 #[(0, .bool true), (1, .agg (K.map u32v).toArray), (2, .agg (H.map u32v).toArray), (3, .slice A n c)]).run Tryz.prog W = .ok (.agg (stL true K H (.slice A n c) 0).toArray) W := by
  have hz : Tryz.zeroCells75.setIfInBounds 0 (.bool true) = (stL true (List.replicate 64 0) (List.replicate 8 0) (.slice none 0 0) 0).toArray := rfl
  have h1 := fold_lay 1 (K.map u32v) 0 (stL true (List.replicate 64 0) (List.replicate 8 0) (.slice none 0 0) 0).toArray (by rw [List.size_toArray, stL_len (by simp) (by simp)]; simp [hK])
  rw [stL_layK (by simp) hK] at h1
  have h2 := fold_lay 65 (H.map u32v) 0 (stL true K (List.replicate 8 0) (.slice none 0 0) 0).toArray (by rw [List.size_toArray, stL_len hK (by simp)]; simp [hH])
  rw [stL_layH hK (by simp) hH] at h2
  have h3 : (stL true K H (.slice none 0 0) 0).toArray.setIfInBounds 73 (.slice A n c) = (stL true K H (.slice A n c) 0).toArray := by rw [List.setIfInBounds_toArray, stL_setR hK hH]
  have s1 : (stL true K (List.replicate 8 0) (.slice none 0 0) 0).length = 75 := stL_len hK (by simp)
  have s2 : (stL true K H (.slice none 0 0) 0).length = 75 := stL_len hK hH
  obtain ⟨Z, hZ⟩ : ∃ Z : Array Value, (stL true (List.replicate 64 0) (List.replicate 8 0) (.slice none 0 0) 0).toArray = Z := ⟨_, rfl⟩
  obtain ⟨Y, hY⟩ : ∃ Z : Array Value, (stL true K (List.replicate 8 0) (.slice none 0 0) 0).toArray = Z := ⟨_, rfl⟩
  obtain ⟨X, hX⟩ : ∃ Z : Array Value, (stL true K H (.slice none 0 0) 0).toArray = Z := ⟨_, rfl⟩
  have sY : Y.size = 75 := by rw [← hY, List.size_toArray]; exact s1
  have sX : X.size = 75 := by rw [← hX, List.size_toArray]; exact s2
  rw [hZ] at hz h1
  rw [hY] at h1 h2
  rw [hX] at h2 h3
  clear hZ hY hX s1 s2
  simp [go_sem, Instr.build, Instr.fill, hz, h1, h2, h3, hK, hH, sY, sX]
end Go.Proofs.YtmpladnglfiejaaGreatDoor
