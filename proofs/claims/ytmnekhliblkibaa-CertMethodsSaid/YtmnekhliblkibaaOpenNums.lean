/- Arguments opened: a slice of numbers that came in, of a size that memory holds. -/
import Derived.Test.YtmnekhliblkibaaRefOid
import Derived.Test.YtmnekhliblkibaaOpenCase
import Derived.SizedLaws
namespace Go.Proofs.Ytmnekhliblkibaa
open Go.ChangeShapes Go.WideShapes Go.ChangeAt Go.RowKit
set_option maxRecDepth 100000

theorem open_nums_at {H : Type} {enc : TypeId × Value → H} {W : World} {fuel : Nat} {a0 : Option Addr} {len cap : Nat} {x : DataW H × List MemPlace}
    (hf : DataW.trod enc Try.prog W 0 (fun _ => true) true fuel 55 [.slice a0 len cap] = some x) (hs : ∀ es ss, x.1 = .slice es ss → (es.length + ss.length) * Try.prog.bytesOf 28 ≤ reachBytes) : ∃ zs : List Nat, RdU W W.heap.size a0 len cap zs := by
  have h8 : Try.prog.bytesOf 28 = 8 := by kernel_rfl
  rw [h8] at hs
  rcases open_ints Try.underlying55 Try.underlying28 (by kernel_rfl) hf with ⟨hcs, _⟩ | ⟨x, l, c, zs, hcs, _, hl, hm, hz, hx, hcell, hwz⟩
  · simp at hcs
    obtain ⟨rfl, rfl, rfl⟩ := hcs
    exact ⟨[], rfl, by omega, fun z h => (List.not_mem_nil h).elim, fun h => absurd h (by omega)⟩
  · simp at hcs
    obtain ⟨rfl, rfl, rfl⟩ := hcs
    have hz' : zs.length = cap := by simpa using hz
    have hsz := hs _ _ (by rw [hx])
    unfold lits at hsz
    rw [List.length_map, List.length_map, List.length_take, List.length_drop] at hsz
    have h44 : len ≤ 17592186044416 := by
      have : reachBytes = 140737488351232 := by decide +kernel
      omega
    have hadd : ∀ i, i < cap → W.cell? (x.add i) = some (.int .u64 (zs.getD i 0)) := fun i hi => hcell i (by omega)
    have hnat : ∀ z ∈ zs, z = ((z.toNat : Nat) : Int) ∧ z.toNat < 18446744073709551616 := fun z hzm => by
      have h1 := nat_of_wf (hwz z hzm) rfl
      have h2 : IntKind.u64.max = 18446744073709551615 := rfl
      exact ⟨h1.1, by omega⟩
    refine ⟨(zs.take len).map Int.toNat, by simp; omega, h44, fun z h => ?_, fun hn => ?_⟩
    · obtain ⟨y, hy, rfl⟩ := List.mem_map.1 h
      exact (hnat y (List.mem_of_mem_take hy)).2
    · obtain ⟨b, o, s⟩ := x
      have h1 := hadd 0 (by omega)
      obtain rfl : s = none := by simpa [Addr.add] using World.cell?_spot h1
      have hlt := World.block_lt_of_cell? W _ h1
      refine ⟨b, o, rfl, by simpa [Addr.add] using hlt, fun j u hu => ?_⟩
      have hj : j < len := by
        have := (List.getElem?_eq_some_iff.1 hu).1
        simp at this; omega
      have h2 := hadd j (by omega)
      have hzj : zs[j]? = some (zs[j]'(by omega)) := List.getElem?_eq_getElem (by omega)
      have hw := (hnat (zs[j]'(by omega)) (List.getElem_mem _)).1
      simp only [List.getElem?_map, List.getElem?_take, if_pos hj, hzj, Option.map_some, Option.some.injEq] at hu
      subst hu
      rw [Addr.add_lit] at h2
      rw [h2]
      simp only [List.getD, hzj, Option.getD_some]
      rw [← hw]
theorem open_nums {H : Type} {enc : TypeId × Value → H} {W : World} {a0 : Option Addr} {len cap : Nat} {d0 : DataW H} {p : List MemPlace}
    (h0 : DataW.Trod enc Try.prog W 0 (fun _ => true) true 55 (.slice a0 len cap) d0 p) (hs : ∀ es ss, d0 = .slice es ss → (es.length + ss.length) * Try.prog.bytesOf 28 ≤ reachBytes) : ∃ zs : List Nat, RdU W W.heap.size a0 len cap zs := by
  obtain ⟨fuel, hf⟩ := h0
  exact open_nums_at (x := (d0, p)) (by simpa [Value.cells] using hf) hs
end Go.Proofs.Ytmnekhliblkibaa
