/- Arguments opened: a slice of slices of bytes that came in. -/
import Derived.Test.YtedlpcioegbmfaaDoorPeOpenSh
import Derived.ProofKit
import Derived.OpenShut
import Derived.KernelRfl
namespace Go.Proofs.YtedlpcioegbmfaaDoor
open Go.ChangeShapes Go.WideShapes Go.ChangeAt Go.RowKit
set_option maxRecDepth 100000
theorem open_bytess {H : Type} {enc : TypeId × Value → H} {W : World} {a0 : Option Addr} {len cap : Nat} {d0 : DataW H} {p : List MemPlace}
    (h0 : DataW.Trod enc Tryd.prog W 0 (fun _ => true) true 23 (.slice a0 len cap) d0 p) : ∃ L : List (Value × List UInt8), RdL W W.heap.size a0 len cap L := by
  obtain ⟨fuel, hf⟩ := h0
  rcases DataW.trod_slice Tryd.underlying23 hf with ⟨hcs, _⟩ | ⟨x, l, c, elems, rest, n, _, hcs, hx, _, hl, hm, hlen, hel, _⟩
  · simp [Value.cells] at hcs
    obtain ⟨rfl, rfl, rfl⟩ := hcs
    exact ⟨[], rfl, Nat.le_refl _, by omega, Reads.none_, fun _ _ h => by cases h⟩
  · simp [Value.cells] at hcs
    obtain ⟨rfl, rfl, rfl⟩ := hcs
    have hone : Tryd.prog.cellsOf 22 = 1 := by kernel_rfl
    rw [hone] at hel
    have hb : ∀ i, i < len → ∃ q : Value × List UInt8, W.cell? (x.add i) = some q.1 ∧ RdV W W.heap.size q.1 q.2 := fun i hi => by
      obtain ⟨y, hy⟩ : ∃ y, elems[i]? = some y := ⟨elems[i]'(by omega), List.getElem?_eq_getElem _⟩
      have h1 := hel i hi
      rw [hy, Nat.mul_one, Option.bind_eq_some_iff] at h1
      obtain ⟨cs, hcs, ht⟩ := h1
      obtain ⟨A', n', c', zs, rfl, hz⟩ := open_bytes_at ht
      exact ⟨(.slice A' n' c', zs), cell_of_cells?_one hcs, RdV.mk hz⟩
    have key : ∀ j v, (((List.range len).map fun i => if h : i < len then Classical.choose (hb i h) else (.slice none 0 0, [])))[j]? = some v → W.cell? (x.add j) = some v.1 ∧ RdV W W.heap.size v.1 v.2 := fun j v hv => by
      rw [List.getElem?_map, Option.map_eq_some_iff] at hv
      obtain ⟨i, hi, hv⟩ := hv
      obtain ⟨hjl, hji⟩ := List.getElem?_eq_some_iff.1 hi
      simp at hji hjl
      subst hji
      rw [dif_pos hjl] at hv
      have := Classical.choose_spec (hb j hjl)
      rwa [hv] at this
    refine ⟨(List.range len).map fun i => if h : i < len then Classical.choose (hb i h) else (.slice none 0 0, []), by simp, hl, by simpa [maxLen] using hm, ⟨by simp, fun hn => ⟨x, rfl, ?_, fun j u hu => ?_⟩⟩, fun v xs hv => ?_⟩
    · obtain ⟨q, h1, _⟩ := hb 0 hn
      have hlt := World.block_lt_of_cell? W _ h1
      rw [block_of_add] at hlt
      exact hlt
    · rw [List.getElem?_map, Option.map_eq_some_iff] at hu
      obtain ⟨v, hv, rfl⟩ := hu
      exact (key j v hv).1
    · obtain ⟨j, hj⟩ := List.getElem?_of_mem hv
      exact (key j _ hj).2
end Go.Proofs.YtedlpcioegbmfaaDoor
