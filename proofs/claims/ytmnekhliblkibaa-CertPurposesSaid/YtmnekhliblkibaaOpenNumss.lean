/- Arguments opened: a slice of slices of numbers that came in. -/
import Derived.Test.YtmnekhliblkibaaPurp
import Derived.Test.YtmnekhliblkibaaOpenNums
namespace Go.Proofs.Ytmnekhliblkibaa
open Go.ChangeShapes Go.WideShapes Go.ChangeAt Go.RowKit
set_option maxRecDepth 100000

theorem weightsAll_mem {H : Type} (P : Program) (e : TypeId) : ∀ (l : List (DataW H)) (d : DataW H) (n : Nat), d ∈ l → n ∈ d.weights P e → n ∈ DataW.weightsAll P e l
  | x :: l, d, n, hd, hn => by
    simp only [DataW.weightsAll, List.mem_append]
    rcases List.mem_cons.1 hd with rfl | hd
    · exact .inl hn
    · exact .inr (weightsAll_mem P e l d n hd hn)
theorem open_numss {H : Type} {enc : TypeId × Value → H} {W : World} {a0 : Option Addr} {len cap : Nat} {d0 : DataW H} {p : List MemPlace}
    (h0 : DataW.Trod enc Try.prog W 0 (fun _ => true) true 68 (.slice a0 len cap) d0 p) (hw : ∀ m ∈ d0.weights Try.prog 68, m ≤ reachBytes) : ∃ L : List (List Nat), RdUs W W.heap.size a0 len cap L := by
  obtain ⟨fuel, hf⟩ := h0
  rcases DataW.trod_slice Try.underlying68 hf with ⟨hcs, _⟩ | ⟨x, l, c, elems, rest, n, _, hcs, hx, _, hl, hm, hlen, hel, _⟩
  · simp [Value.cells] at hcs
    obtain ⟨rfl, rfl, rfl⟩ := hcs
    exact ⟨[], rfl, fun h => absurd h (by omega)⟩
  · simp [Value.cells] at hcs
    obtain ⟨rfl, rfl, rfl⟩ := hcs
    have hone : Try.prog.cellsOf 55 = 1 := by kernel_rfl
    rw [hone] at hel
    have hd : d0 = .slice (elems.map (·.1)) (rest.map (·.1)) := congrArg Prod.fst hx
    have hb : ∀ i, i < len → ∃ zs : List Nat, ∃ A' n' c', W.cell? (x.add i) = some (.slice A' n' c') ∧ RdU W W.heap.size A' n' c' zs := fun i hi => by
      obtain ⟨y, hy⟩ : ∃ y, elems[i]? = some y := ⟨elems[i]'(by omega), List.getElem?_eq_getElem _⟩
      have h1 := hel i hi
      rw [hy, Nat.mul_one, Option.bind_eq_some_iff] at h1
      obtain ⟨cs, hcs, ht⟩ := h1
      have hsz : ∀ es ss, y.1 = .slice es ss → (es.length + ss.length) * Try.prog.bytesOf 28 ≤ reachBytes := fun es ss e => by
        refine hw _ ?_
        rw [hd]
        simp only [DataW.weights, Try.underlying68, List.mem_cons, List.mem_append]
        refine .inr (.inl (weightsAll_mem _ _ _ y.1 _ (List.mem_map.2 ⟨y, List.mem_of_getElem? hy, rfl⟩) ?_))
        rw [e]
        simp only [DataW.weights, Try.underlying55, List.mem_cons]
        exact .inl trivial
      have hsl : ∃ A' n' c', cs = [.slice A' n' c'] := by
        rcases DataW.trod_slice Try.underlying55 ht with ⟨e, _⟩ | ⟨a, l', c', _, _, _, _, e, _⟩
        · exact ⟨_, _, _, e⟩
        · exact ⟨_, _, _, e⟩
      obtain ⟨A', n', c', rfl⟩ := hsl
      obtain ⟨zs, hz⟩ := open_nums_at ht hsz
      exact ⟨zs, A', n', c', cell_of_cells?_one hcs, hz⟩
    refine ⟨(List.range len).map fun i => if h : i < len then Classical.choose (hb i h) else [], by simp, fun hn => ?_⟩
    obtain ⟨b, o, s⟩ := x
    obtain ⟨_, _, _, _, h1, _⟩ := hb 0 hn
    obtain rfl : s = none := by simpa [Addr.add] using World.cell?_spot h1
    have hlt := World.block_lt_of_cell? W _ h1
    refine ⟨b, o, rfl, by simpa [Addr.add] using hlt, fun j zs hv => ?_⟩
    rw [List.getElem?_map, Option.map_eq_some_iff] at hv
    obtain ⟨i, hi, hv⟩ := hv
    obtain ⟨hjl, hji⟩ := List.getElem?_eq_some_iff.1 hi
    simp at hji hjl
    subst hji
    rw [dif_pos hjl] at hv
    obtain ⟨A', n', c', hc, hz⟩ := Classical.choose_spec (hb j hjl)
    rw [hv] at hz
    rw [Addr.add_lit] at hc
    exact ⟨A', n', c', hc, hz⟩
end Go.Proofs.Ytmnekhliblkibaa
