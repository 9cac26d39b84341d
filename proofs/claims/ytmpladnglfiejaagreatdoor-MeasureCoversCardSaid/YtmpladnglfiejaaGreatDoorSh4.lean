/- SHA-256 of the program: a state, and how it begins. -/
import Derived.Test.YtmpladnglfiejaaGreatDoorSh3
import Derived.Test.YtmpladnglfiejaaGreatDoorPE
import Derived.Test.YtmpladnglfiejaaGreatDoorPB
namespace Go.Proofs.YtmpladnglfiejaaGreatDoor
open Go.RowKit
set_option maxRecDepth 100000
set_option linter.unusedVariables false
set_option linter.unusedSimpArgs false
namespace Sha
def P64 : List Nat := prun 310
def ktab : List Int := P64.map fun p => rootN (cuP p)
def htab : List Int := (P64.take 8).map fun p => rootN (sqP p)
theorem P64_len : P64.length = 64 := prun_310
theorem ktab_len : ktab.length = 64 := by unfold ktab; rw [List.length_map, P64_len]
theorem htab_len : htab.length = 8 := by unfold htab; rw [List.length_map, List.length_take, P64_len]; rfl
theorem P64_small : ∀ p ∈ P64, p < 1000 := fun p hp => by have := prun_mem 310 p hp; omega
/-- A list, filled up. -/
def padL {α : Type} (n : Nat) (l : List α) (z : α) : List α := l ++ List.replicate (n - l.length) z
theorem padL_set {α : Type} {n : Nat} {l : List α} (z x : α) (h : l.length < n) : (padL n l z).set l.length x = padL n (l ++ [x]) z := by
  unfold padL
  rw [List.set_append_right _ _ (Nat.le_refl _), Nat.sub_self]
  obtain ⟨k, hk⟩ : ∃ k, n - l.length = k + 1 := ⟨n - l.length - 1, by omega⟩
  rw [hk, List.replicate_succ, List.set_cons_zero, List.length_append, show n - (l.length + [x].length) = k by simp; omega]
  simp
theorem padL_len {α : Type} {n : Nat} {l : List α} (z : α) (h : l.length ≤ n) : (padL n l z).length = n := by unfold padL; simp; omega
theorem padL_at {α : Type} {n : Nat} {l : List α} (z : α) (h : l.length < n) : (padL n l z)[l.length]? = some z := by
  unfold padL
  rw [List.getElem?_append_right (Nat.le_refl _), Nat.sub_self]
  obtain ⟨k, hk⟩ : ∃ k, n - l.length = k + 1 := ⟨n - l.length - 1, by omega⟩
  rw [hk, List.replicate_succ]
  rfl
theorem padL_full {α : Type} {n : Nat} {l : List α} (z : α) (h : l.length = n) : padL n l z = l := by unfold padL; rw [h, Nat.sub_self]; simp
theorem padL_take {α : Type} {n i : Nat} {l : List α} {x : α} (z : α) (h : l[i]? = some x) (hl : l.length ≤ n) : (padL n (l.take i) z).set i x = padL n (l.take (i + 1)) z := by
  have hi := (List.getElem?_eq_some_iff.1 h).1
  have e : (l.take i).length = i := by rw [List.length_take]; omega
  have := padL_set (n := n) (l := l.take i) z x (by omega)
  rw [e] at this
  rw [this, take_snoc h]
end Sha
def u32v (x : Int) : Value := .int .u32 x
/-- A state's cells. -/
def stL (made : Bool) (K H : List Int) (rest : Value) (n : Int) : List Value := .bool made :: (K.map u32v ++ (H.map u32v ++ [rest, .int .u64 n]))
section
variable {made : Bool} {K H : List Int} {rest : Value} {n : Int}
theorem stL_k (hK : K.length = 64) {i : Nat} {x : Int} (h : K[i]? = some x) : (stL made K H rest n)[1 + i]? = some (u32v x) := by
  unfold stL
  have hi := (List.getElem?_eq_some_iff.1 h).1
  rw [Nat.add_comm, List.getElem?_cons_succ, List.getElem?_append_left (by simpa using hi), List.getElem?_map, h]
  rfl
theorem stL_h (hK : K.length = 64) (hH : H.length = 8) {i : Nat} {x : Int} (h : H[i]? = some x) : (stL made K H rest n)[65 + i]? = some (u32v x) := by
  unfold stL
  have hi := (List.getElem?_eq_some_iff.1 h).1
  rw [show 65 + i = (64 + i) + 1 by omega, List.getElem?_cons_succ, List.getElem?_append_right (by simp; omega), List.length_map, hK, show 64 + i - 64 = i by omega, List.getElem?_append_left (by simpa using hi), List.getElem?_map, h]
  rfl
theorem stL_rest (hK : K.length = 64) (hH : H.length = 8) : (stL made K H rest n)[73]? = some rest := by
  unfold stL
  rw [List.getElem?_cons_succ, List.getElem?_append_right (by simp; omega), List.length_map, hK, List.getElem?_append_right (by simp; omega), List.length_map, hH]
  rfl
theorem stL_n (hK : K.length = 64) (hH : H.length = 8) : (stL made K H rest n)[74]? = some (.int .u64 n) := by
  unfold stL
  rw [List.getElem?_cons_succ, List.getElem?_append_right (by simp; omega), List.length_map, hK, List.getElem?_append_right (by simp; omega), List.length_map, hH]
  rfl
theorem stL_len (hK : K.length = 64) (hH : H.length = 8) : (stL made K H rest n).length = 75 := by unfold stL; simp [hK, hH]
theorem stL_setK (hK : K.length = 64) {i : Nat} (hi : i < 64) (x : Int) : (stL made K H rest n).set (1 + i) (u32v x) = stL made (K.set i x) H rest n := by
  unfold stL
  rw [Nat.add_comm, List.set_cons_succ, List.set_append_left _ _ (by simp; omega), List.map_set]
theorem stL_setH (hK : K.length = 64) (hH : H.length = 8) {i : Nat} (hi : i < 8) (x : Int) : (stL made K H rest n).set (65 + i) (u32v x) = stL made K (H.set i x) rest n := by
  unfold stL
  rw [show 65 + i = (64 + i) + 1 by omega, List.set_cons_succ, List.set_append_right _ _ (by simp; omega), List.length_map, hK, show 64 + i - 64 = i by omega, List.set_append_left _ _ (by simp; omega), List.map_set]
theorem stL_setR (hK : K.length = 64) (hH : H.length = 8) (v : Value) : (stL made K H rest n).set 73 v = stL made K H v n := by
  unfold stL
  rw [List.set_cons_succ, List.set_append_right _ _ (by simp; omega), List.length_map, hK, List.set_append_right _ _ (by simp; omega), List.length_map, hH]
  rfl
theorem stL_setN (hK : K.length = 64) (hH : H.length = 8) (m : Int) : (stL made K H rest n).set 74 (.int .u64 m) = stL made K H rest m := by
  unfold stL
  rw [List.set_cons_succ, List.set_append_right _ _ (by simp; omega), List.length_map, hK, List.set_append_right _ _ (by simp; omega), List.length_map, hH]
  rfl
theorem stL_setM (b : Bool) : (stL made K H rest n).set 0 (.bool b) = stL b K H rest n := rfl
theorem stL_layH (hK : K.length = 64) (hH : H.length = 8) {H' : List Int} (hH' : H'.length = 8) : layAt (stL made K H rest n).toArray 65 (H'.map u32v) = (stL made K H' rest n).toArray := by
  unfold layAt stL
  congr 1
  simp only [List.length_map, hH', List.toList_toArray]
  rw [show (65 : Nat) = 64 + 1 from rfl, List.take_succ_cons, List.take_append_of_le_length (by simp; omega), List.take_of_length_le (by simp; omega), show 64 + 1 + 8 = 72 + 1 from rfl, List.drop_succ_cons, List.drop_append, List.drop_eq_nil_of_le (by simp; omega), List.length_map, hK, List.drop_append, List.drop_eq_nil_of_le (by simp; omega), List.length_map, hH]
  simp
end
/-- A state in memory. -/
abbrev Bst (w : World) (g : Nat) (made : Bool) (K H : List Int) (rest : Value) (n : Int) : Prop := Blk w g 75 (stL made K H rest n).toArray
end Go.Proofs.YtmpladnglfiejaaGreatDoor
