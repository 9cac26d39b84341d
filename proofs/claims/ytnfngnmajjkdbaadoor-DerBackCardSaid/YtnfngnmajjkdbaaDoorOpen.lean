/- Arguments opened: a slice of bytes that came in, as the list of its bytes. -/
import Derived.Test.YtnfngnmajjkdbaaDoorMem
import Derived.Test.YtnfngnmajjkdbaaDoorProg
import Derived.ProofKit
import Derived.OpenShut
import Derived.KernelRfl
namespace Go.Proofs.YtnfngnmajjkdbaaDoor
open Go.ChangeShapes Go.WideShapes Go.ChangeAt Go.RowKit

theorem u8_of_wf {n : Int} (h : (Lit.int .u8 n).wf = true) : ((UInt8.ofNat n.toNat).toNat : Int) = n := by
  have h1 : IntKind.u8.min = 0 := rfl
  have h2 : IntKind.u8.max = 255 := rfl
  simp only [Lit.wf, Bool.and_eq_true, decide_eq_true_eq] at h
  rw [UInt8.toNat_ofNat']
  omega

/-- A slice of bytes that came in: nil or not. -/
theorem open_bytes {H : Type} {enc : TypeId × Value → H} {W : World} {a0 : Option Addr} {len cap : Nat} {d0 : DataW H} {p : List MemPlace}
    (h0 : DataW.Trod enc Tryd.prog W 0 (fun _ => true) true 22 (.slice a0 len cap) d0 p) : ∃ xs : List UInt8, Rd W W.heap.size a0 len cap xs := by
  obtain ⟨fuel, hf⟩ := h0
  rcases open_ints Tryd.underlying22 Tryd.underlying5 (by kernel_rfl) hf with ⟨hcs, _⟩ | ⟨x, l, c, zs, hcs, _, hl, hm, hz, _, hcell, hwz⟩
  · simp [Value.cells] at hcs
    obtain ⟨rfl, rfl, rfl⟩ := hcs
    exact ⟨[], Rd.none_⟩
  · simp [Value.cells] at hcs
    obtain ⟨rfl, rfl, rfl⟩ := hcs
    have hz' : zs.length = cap := by simpa using hz
    have hadd : ∀ i, i < cap → W.cell? (x.add i) = some (.int .u8 (zs.getD i 0)) := fun i hi => hcell i (by omega)
    refine ⟨(zs.take len).map fun n => UInt8.ofNat n.toNat, by simp; omega, hl, by simpa [maxLen] using hm, (fun e => by cases e), fun hc => ?_, by simp; omega, fun hn => ?_⟩
    · obtain ⟨b, o, s⟩ := x
      have h1 := hadd 0 hc
      obtain rfl : s = none := by simpa [Addr.add] using World.cell?_spot h1
      have hlt := World.block_lt_of_cell? W _ h1
      exact ⟨b, o, rfl, by simpa [Addr.add] using hlt⟩
    · have h1 := hadd 0 (by omega)
      have hlt := World.block_lt_of_cell? W _ h1
      refine ⟨x, rfl, by rw [block_of_add] at hlt; exact hlt, fun j u hu => ?_⟩
      have hj : j < len := by
        have := (List.getElem?_eq_some_iff.1 hu).1
        simp at this; omega
      rw [hadd j (by omega)]
      have hzj : zs[j]? = some (zs[j]'(by omega)) := List.getElem?_eq_getElem (by omega)
      have hw := hwz (zs[j]'(by omega)) (List.getElem_mem _)
      simp only [List.map_map, List.getElem?_map, List.getElem?_take, if_pos hj, hzj, Option.map_some, Function.comp, Option.some.injEq] at hu
      subst hu
      simp only [List.getD, hzj, Option.getD_some, bv]
      rw [u8_of_wf hw]
end Go.Proofs.YtnfngnmajjkdbaaDoor
