/- Arguments opened: a slice of slices of bytes that came in. -/
import Derived.Test.YtdokijdbefannaaMem2
import Derived.Test.YtdokijdbefannaaOpen
import Derived.ProofKit
import Derived.OpenShut
import Derived.KernelRfl
namespace Go.Proofs.Ytdokijdbefannaa
open Go.ChangeShapes Go.WideShapes Go.ChangeAt Go.RowKit
set_option maxRecDepth 100000

section
variable {H : Type} {enc : TypeId × Value → H} {W : World} {fuel : Nat} {cs : List Value} {x : DataW H × List MemPlace}
theorem open_bytes_at (hf : DataW.trod enc Try.prog W 0 (fun _ => true) true fuel 24 cs = some x) : ∃ A n c xs, cs = [.slice A n c] ∧ Rd W W.heap.size A n c xs := by
  rcases open_ints Try.underlying24 Try.underlying5 (by kernel_rfl) hf with ⟨hcs, _⟩ | ⟨x, l, c, zs, hcs, _, hl, hm, hz, _, hcell, hwz⟩
  · exact ⟨none, 0, 0, [], hcs, Rd.none_⟩
  · have hz' : zs.length = c := by simpa using hz
    have hadd : ∀ i, i < c → W.cell? (x.add i) = some (.int .u8 (zs.getD i 0)) := fun i hi => hcell i (by omega)
    refine ⟨some x, l, c, (zs.take l).map fun n => UInt8.ofNat n.toNat, hcs, by simp; omega, hl, by simpa [maxLen] using hm, (fun e => by cases e), fun hc => ?_, by simp; omega, fun hn => ?_⟩
    · obtain ⟨b, o, s⟩ := x
      have h1 := hadd 0 hc
      obtain rfl : s = none := by simpa [Addr.add] using World.cell?_spot h1
      have hlt := World.block_lt_of_cell? W _ h1
      exact ⟨b, o, rfl, by simpa [Addr.add] using hlt⟩
    · have h1 := hadd 0 (by omega)
      have hlt := World.block_lt_of_cell? W _ h1
      refine ⟨x, rfl, by rw [block_of_add] at hlt; exact hlt, fun j u hu => ?_⟩
      have hj : j < l := by
        have := (List.getElem?_eq_some_iff.1 hu).1
        simp at this; omega
      rw [hadd j (by omega)]
      have hzj : zs[j]? = some (zs[j]'(by omega)) := List.getElem?_eq_getElem (by omega)
      have hw := hwz (zs[j]'(by omega)) (List.getElem_mem _)
      simp only [List.map_map, List.getElem?_map, List.getElem?_take, if_pos hj, hzj, Option.map_some, Function.comp, Option.some.injEq] at hu
      subst hu
      simp only [List.getD, hzj, Option.getD_some, bv]
      rw [u8_of_wf hw]
end

theorem open_bytess {H : Type} {enc : TypeId × Value → H} {W : World} {a0 : Option Addr} {len cap : Nat} {d0 : DataW H} {p : List MemPlace}
    (h0 : DataW.Trod enc Try.prog W 0 (fun _ => true) true 22 (.slice a0 len cap) d0 p) : ∃ L : List (Value × List UInt8), RdL W W.heap.size a0 len cap L := by
  obtain ⟨fuel, hf⟩ := h0
  rcases DataW.trod_slice Try.underlying22 hf with ⟨hcs, _⟩ | ⟨x, l, c, elems, rest, n, _, hcs, hx, _, hl, hm, hlen, hel, _⟩
  · simp [Value.cells] at hcs
    obtain ⟨rfl, rfl, rfl⟩ := hcs
    exact ⟨[], rfl, Nat.le_refl _, by omega, Reads.none_, fun _ _ h => by cases h⟩
  · simp [Value.cells] at hcs
    obtain ⟨rfl, rfl, rfl⟩ := hcs
    have hone : Try.prog.cellsOf 24 = 1 := by kernel_rfl
    rw [hone] at hel
    have hb : ∀ i, i < len → ∃ q : Value × List UInt8, W.cell? (x.add i) = some q.1 ∧ RdV W W.heap.size q.1 q.2 := fun i hi => by
      obtain ⟨y, hy⟩ : ∃ y, elems[i]? = some y := ⟨elems[i]'(by omega), List.getElem?_eq_getElem _⟩
      have h1 := hel i hi
      rw [hy, Nat.mul_one, Option.bind_eq_some_iff] at h1
      obtain ⟨cs, hcs, ht⟩ := h1
      obtain ⟨A', n', c', zs, rfl, hz⟩ := open_bytes_at ht
      exact ⟨(.slice A' n' c', zs), cell_of_cells?_one hcs, RdV.mk hz⟩
    have key : ∀ j v, (((List.range len).map fun i => if h : i < len then Classical.choose (hb i h) else (.slice none 0 0, [])))[j]? = some v → W.cell? (x.add j) = some v.1 ∧ RdV W W.heap.size v.1 v.2 := fun j v hv => by
      rw [List.getElem?_map, Option.map_eq_some_iff] at hv
      obtain ⟨i, hi, hv⟩ := hv
      obtain ⟨hjl, hji⟩ := List.getElem?_eq_some_iff.1 hi
      simp at hji hjl
      subst hji
      rw [dif_pos hjl] at hv
      have := Classical.choose_spec (hb j hjl)
      rwa [hv] at this
    refine ⟨(List.range len).map fun i => if h : i < len then Classical.choose (hb i h) else (.slice none 0 0, []), by simp, hl, by simpa [maxLen] using hm, ⟨by simp, fun hn => ⟨x, rfl, ?_, fun j u hu => ?_⟩⟩, fun v xs hv => ?_⟩
    · obtain ⟨q, h1, _⟩ := hb 0 hn
      have hlt := World.block_lt_of_cell? W _ h1
      rw [block_of_add] at hlt
      exact hlt
    · rw [List.getElem?_map, Option.map_eq_some_iff] at hu
      obtain ⟨v, hv, rfl⟩ := hu
      exact (key j v hv).1
    · obtain ⟨j, hj⟩ := List.getElem?_of_mem hv
      exact (key j _ hj).2
end Go.Proofs.Ytdokijdbefannaa
