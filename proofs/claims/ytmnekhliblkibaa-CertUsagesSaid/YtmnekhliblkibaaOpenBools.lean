/- Arguments opened: a slice of bools that came in. -/
import Derived.Test.YtmnekhliblkibaaUsages
import Derived.Test.YtmnekhliblkibaaOpenCase
namespace Go.Proofs.Ytmnekhliblkibaa
open Go.ChangeShapes Go.WideShapes Go.ChangeAt Go.RowKit
set_option maxRecDepth 100000

theorem open_bools {H : Type} {enc : TypeId × Value → H} {W : World} {a0 : Option Addr} {len cap : Nat} {d0 : DataW H} {p : List MemPlace}
    (h0 : DataW.Trod enc Try.prog W 0 (fun _ => true) true 60 (.slice a0 len cap) d0 p) : ∃ bits : List Bool, RdQ W W.heap.size a0 len cap bits := by
  obtain ⟨fuel, hf⟩ := h0
  rcases DataW.trod_slice Try.underlying60 hf with ⟨hcs, _⟩ | ⟨x, l, c, elems, rest, n, _, hcs, _, _, hl, hm, hlen, hel, _⟩
  · simp [Value.cells] at hcs
    obtain ⟨rfl, rfl, rfl⟩ := hcs
    exact ⟨[], rfl, fun h => absurd h (by omega)⟩
  · simp [Value.cells] at hcs
    obtain ⟨rfl, rfl, rfl⟩ := hcs
    have hone : Try.prog.cellsOf 4 = 1 := by kernel_rfl
    rw [hone] at hel
    have hb : ∀ i, i < len → ∃ b, W.cell? (x.add i) = some (.bool b) := fun i hi => by
      obtain ⟨y, hy⟩ : ∃ y, elems[i]? = some y := ⟨elems[i]'(by omega), List.getElem?_eq_getElem _⟩
      have h1 := hel i hi
      rw [hy, Nat.mul_one, Option.bind_eq_some_iff] at h1
      obtain ⟨cs, hcs, ht⟩ := h1
      obtain ⟨b, rfl, _⟩ := DataW.trod_bool Try.underlying4 ht
      exact ⟨b, cell_of_cells?_one hcs⟩
    refine ⟨(List.range len).map fun i => match W.cell? (x.add i) with | some (.bool b) => b | _ => false, by simp, fun hn => ?_⟩
    obtain ⟨b, o, s⟩ := x
    obtain ⟨v, h1⟩ := hb 0 hn
    obtain rfl : s = none := by simpa [Addr.add] using World.cell?_spot h1
    have hlt := World.block_lt_of_cell? W _ h1
    refine ⟨b, o, rfl, by simpa [Addr.add] using hlt, fun j v hv => ?_⟩
    rw [List.getElem?_map, Option.map_eq_some_iff] at hv
    obtain ⟨i, hi, hv⟩ := hv
    have hi2 := List.getElem?_eq_some_iff.1 hi
    obtain ⟨hjl, hji⟩ := hi2
    simp at hji hjl
    subst hji
    obtain ⟨u, hu⟩ := hb j hjl
    rw [hu] at hv
    simp only at hv
    subst hv
    rw [Addr.add_lit] at hu
    exact hu
end Go.Proofs.Ytmnekhliblkibaa
