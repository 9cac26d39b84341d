/- Arguments opened: a shape that came in. -/
import Derived.Test.YtedlpcioegbmfaaDoorPD
import Derived.ProofKit
import Derived.OpenShut
import Derived.KernelRfl
namespace Go.Proofs.YtedlpcioegbmfaaDoor
open Go.ChangeShapes Go.WideShapes Go.ChangeAt Go.RowKit
set_option maxRecDepth 100000

section
variable {H : Type} {enc : TypeId × Value → H} {W : World} {fuel : Nat} {cs : List Value} {x : DataW H × List MemPlace}
theorem open_bytes_at (hf : DataW.trod enc Tryd.prog W 0 (fun _ => true) true fuel 22 cs = some x) : ∃ A n c xs, cs = [.slice A n c] ∧ Rd W W.heap.size A n c xs := by
  rcases open_ints Tryd.underlying22 Tryd.underlying5 (by kernel_rfl) hf with ⟨hcs, _⟩ | ⟨x, l, c, zs, hcs, _, hl, hm, hz, _, hcell, hwz⟩
  · exact ⟨none, 0, 0, [], hcs, Rd.none_⟩
  · have hz' : zs.length = c := by simpa using hz
    have hadd : ∀ i, i < c → W.cell? (x.add i) = some (.int .u8 (zs.getD i 0)) := fun i hi => hcell i (by omega)
    refine ⟨some x, l, c, (zs.take l).map fun n => UInt8.ofNat n.toNat, hcs, by simp; omega, hl, by simpa [maxLen] using hm, (fun e => by cases e), fun hc => ?_, by simp; omega, fun hn => ?_⟩
    · obtain ⟨b, o, s⟩ := x
      have h1 := hadd 0 hc
      obtain rfl : s = none := by simpa [Addr.add] using World.cell?_spot h1
      have hlt := World.block_lt_of_cell? W _ h1
      exact ⟨b, o, rfl, by simpa [Addr.add] using hlt⟩
    · have h1 := hadd 0 (by omega)
      have hlt := World.block_lt_of_cell? W _ h1
      refine ⟨x, rfl, by rw [block_of_add] at hlt; exact hlt, fun j u hu => ?_⟩
      have hj : j < l := by
        have := (List.getElem?_eq_some_iff.1 hu).1
        simp at this; omega
      rw [hadd j (by omega)]
      have hzj : zs[j]? = some (zs[j]'(by omega)) := List.getElem?_eq_getElem (by omega)
      have hw := hwz (zs[j]'(by omega)) (List.getElem_mem _)
      simp only [List.map_map, List.getElem?_map, List.getElem?_take, if_pos hj, hzj, Option.map_some, Function.comp, Option.some.injEq] at hu
      subst hu
      simp only [List.getD, hzj, Option.getD_some, bv]
      rw [u8_of_wf hw]
theorem open_ints_at (hf : DataW.trod enc Tryd.prog W 0 (fun _ => true) true fuel 24 cs = some x) : ∃ A n c zs, cs = [.slice A n c] ∧ RdI W W.heap.size A n c zs := by
  rcases open_ints Tryd.underlying24 Tryd.underlying3 (by kernel_rfl) hf with ⟨hcs, _⟩ | ⟨x, l, c, zs, hcs, _, hl, hm, hz, _, hcell, hwz⟩
  · exact ⟨none, 0, 0, [], hcs, rfl, Nat.le_refl _, by omega, fun h => absurd rfl h, Reads.none_⟩
  · have hz' : zs.length = c := by simpa using hz
    have hadd : ∀ i, i < c → W.cell? (x.add i) = some (.int .i64 (zs.getD i 0)) := fun i hi => hcell i (by omega)
    refine ⟨some x, l, c, zs.take l, hcs, by simp; omega, hl, by simpa [maxLen] using hm, fun hc => ?_, by simp; omega, fun hn => ?_⟩
    · obtain ⟨b, o, s⟩ := x
      have h1 := hadd 0 (by omega)
      obtain rfl : s = none := by simpa [Addr.add] using World.cell?_spot h1
      have hlt := World.block_lt_of_cell? W _ h1
      exact ⟨b, o, rfl, by simpa [Addr.add] using hlt⟩
    · have h1 := hadd 0 (by omega)
      have hlt := World.block_lt_of_cell? W _ h1
      refine ⟨x, rfl, by rw [block_of_add] at hlt; exact hlt, fun j u hu => ?_⟩
      have hj : j < l := by
        have := (List.getElem?_eq_some_iff.1 hu).1
        simp at this; omega
      rw [hadd j (by omega)]
      have hzj : zs[j]? = some (zs[j]'(by omega)) := List.getElem?_eq_getElem (by omega)
      simp only [List.getElem?_map, List.getElem?_take, if_pos hj, hzj, Option.map_some, Option.some.injEq] at hu
      subst hu
      simp only [List.getD, hzj, Option.getD_some]
theorem open_bytess_at (hf : DataW.trod enc Tryd.prog W 0 (fun _ => true) true fuel 23 cs = some x) : ∃ A n c L, cs = [.slice A n c] ∧ RdL W W.heap.size A n c L := by
  rcases DataW.trod_slice Tryd.underlying23 hf with ⟨hcs, _⟩ | ⟨x, len, cap, elems, rest, n, _, hcs, hx, _, hl, hm, hlen, hel, _⟩
  · exact ⟨none, 0, 0, [], hcs, rfl, Nat.le_refl _, by omega, Reads.none_, fun _ _ h => by cases h⟩
  · have hone : Tryd.prog.cellsOf 22 = 1 := by kernel_rfl
    rw [hone] at hel
    have hb : ∀ i, i < len → ∃ q : Value × List UInt8, W.cell? (x.add i) = some q.1 ∧ RdV W W.heap.size q.1 q.2 := fun i hi => by
      obtain ⟨y, hy⟩ : ∃ y, elems[i]? = some y := ⟨elems[i]'(by omega), List.getElem?_eq_getElem _⟩
      have h1 := hel i hi
      rw [hy, Nat.mul_one, Option.bind_eq_some_iff] at h1
      obtain ⟨cs, hcs, ht⟩ := h1
      obtain ⟨A', n', c', zs, rfl, hz⟩ := open_bytes_at ht
      exact ⟨(.slice A' n' c', zs), cell_of_cells?_one hcs, RdV.mk hz⟩
    have key : ∀ j v, (((List.range len).map fun i => if h : i < len then Classical.choose (hb i h) else (.slice none 0 0, [])))[j]? = some v → W.cell? (x.add j) = some v.1 ∧ RdV W W.heap.size v.1 v.2 := fun j v hv => by
      rw [List.getElem?_map, Option.map_eq_some_iff] at hv
      obtain ⟨i, hi, hv⟩ := hv
      obtain ⟨hjl, hji⟩ := List.getElem?_eq_some_iff.1 hi
      simp at hji hjl
      subst hji
      rw [dif_pos hjl] at hv
      have := Classical.choose_spec (hb j hjl)
      rwa [hv] at this
    refine ⟨some x, len, cap, (List.range len).map fun i => if h : i < len then Classical.choose (hb i h) else (.slice none 0 0, []), hcs, by simp, hl, by simpa [maxLen] using hm, ⟨by simp, fun hn => ⟨x, rfl, ?_, fun j u hu => ?_⟩⟩, fun v xs hv => ?_⟩
    · obtain ⟨q, h1, _⟩ := hb 0 hn
      have hlt := World.block_lt_of_cell? W _ h1
      rw [block_of_add] at hlt
      exact hlt
    · rw [List.getElem?_map, Option.map_eq_some_iff] at hu
      obtain ⟨v, hv, rfl⟩ := hu
      exact (key j v hv).1
    · obtain ⟨j, hj⟩ := List.getElem?_of_mem hv
      exact (key j _ hj).2
theorem open_sh_at {ws : List Value} {d : DataW H} {p : List MemPlace} (hf : DataW.trod enc Tryd.prog W 0 (fun _ => true) true fuel 26 ws = some (d, p)) :
    ∃ (V : ShV) (s : Pe.Shape), ws = V.cells.toList ∧ ShRd W W.heap.size V s := by
  obtain ⟨xs, n, _, _, hl, hxl, hfd⟩ := DataW.trod_struct Tryd.underlying26 hf
  have hl7 : ws.length = 7 := hl
  have hx7 : xs.length = 7 := hxl
  have hx : ∀ i, i < 7 → ∃ y, xs[i]? = some y := fun i hi => ⟨xs[i]'(by omega), List.getElem?_eq_getElem _⟩
  match ws, hl7 with
  | [q0, q1, q2, q3, q4, q5, q6], _ =>
    have k0 := hfd 0 _ rfl
    have k1 := hfd 1 _ rfl
    have k2 := hfd 2 _ rfl
    have k3 := hfd 3 _ rfl
    have k4 := hfd 4 _ rfl
    have k5 := hfd 5 _ rfl
    have k6 := hfd 6 _ rfl
    obtain ⟨y0, e0⟩ := hx 0 (by omega)
    obtain ⟨y1, e1⟩ := hx 1 (by omega)
    obtain ⟨y2, e2⟩ := hx 2 (by omega)
    obtain ⟨y3, e3⟩ := hx 3 (by omega)
    obtain ⟨y4, e4⟩ := hx 4 (by omega)
    obtain ⟨y5, e5⟩ := hx 5 (by omega)
    obtain ⟨y6, e6⟩ := hx 6 (by omega)
    rw [e0] at k0
    rw [e1] at k1
    rw [e2] at k2
    rw [e3] at k3
    rw [e4] at k4
    rw [e5] at k5
    rw [e6] at k6
    obtain ⟨b, r0, _⟩ := DataW.trod_bool Tryd.underlying4 k0
    obtain ⟨A1, n1, c1, z1, r1, b1⟩ := open_bytes_at k1
    obtain ⟨A2, n2, c2, z2, r2, b2⟩ := open_bytes_at k2
    obtain ⟨A3, n3, c3, z3, r3, b3⟩ := open_bytess_at k3
    obtain ⟨A4, n4, c4, z4, r4, b4⟩ := open_ints_at k4
    obtain ⟨A5, n5, c5, z5, r5, b5⟩ := open_bytes_at k5
    obtain ⟨A6, n6, c6, z6, r6, b6⟩ := open_bytess_at k6
    have s0 : [q0] = _ := r0
    have s1 : [q1] = _ := r1
    have s2 : [q2] = _ := r2
    have s3 : [q3] = _ := r3
    have s4 : [q4] = _ := r4
    have s5 : [q5] = _ := r5
    have s6 : [q6] = _ := r6
    simp only [List.cons.injEq, and_true] at s0 s1 s2 s3 s4 s5 s6
    clear r0 r1 r2 r3 r4 r5 r6 k0 k1 k2 k3 k4 k5 k6
    subst s0 s1 s2 s3 s4 s5 s6
    exact ⟨⟨b, .slice A1 n1 c1, .slice A2 n2 c2, .slice A3 n3 c3, .slice A4 n4 c4, .slice A5 n5 c5, .slice A6 n6 c6⟩, ⟨b, z1, z2, z3.map (·.2), z4, z5, z6.map (·.2)⟩, rfl,
      ⟨rfl, RdV.mk b1, RdV.mk b2, ⟨A3, n3, c3, z3, rfl, b3, rfl⟩, ⟨A4, n4, c4, rfl, b4⟩, RdV.mk b5, ⟨A6, n6, c6, z6, rfl, b6, rfl⟩⟩⟩
end
theorem open_sh {H : Type} {enc : TypeId × Value → H} {W : World} {v : Value} {d : DataW H} {p : List MemPlace} {base : Nat} (hv : Value.okWide Tryd.prog W .any base 26 v)
    (h : DataW.Trod enc Tryd.prog W 0 (fun _ => true) true 26 v d p) :
    ∃ (V : ShV) (s : Pe.Shape), v = .agg V.cells ∧ ShRd W W.heap.size V s := by
  obtain ⟨ws, rfl, _⟩ := okWide_struct Tryd.underlying26 hv
  obtain ⟨fuel, hf⟩ := h
  have hf : DataW.trod enc Tryd.prog W 0 (fun _ => true) true fuel 26 ws.toList = some (d, p) := hf
  obtain ⟨V, s, e, hr⟩ := open_sh_at hf
  refine ⟨V, s, ?_, hr⟩
  rw [← Array.toList_inj.1 (show ws.toList = V.cells.toList from e)]
end Go.Proofs.YtedlpcioegbmfaaDoor
