/- Arguments opened: a case of DerBack that came in. -/
import Derived.Test.YtnfngnmajjkdbaaDoorPut2
import Derived.Test.YtnfngnmajjkdbaaDoorOpen
import Derived.ProofKit
import Derived.OpenShut
import Derived.KernelRfl
namespace Go.Proofs.YtnfngnmajjkdbaaDoor
open Go.ChangeShapes Go.WideShapes Go.ChangeAt Go.RowKit
set_option maxRecDepth 100000

section
variable {H : Type} {enc : TypeId × Value → H} {W : World} {fuel : Nat} {cs : List Value} {x : DataW H × List MemPlace}
theorem open_bytes_at (hf : DataW.trod enc Tryd.prog W 0 (fun _ => true) true fuel 22 cs = some x) : ∃ A n c xs, cs = [.slice A n c] ∧ Rd W W.heap.size A n c xs := by
  rcases open_ints Tryd.underlying22 Tryd.underlying5 (by kernel_rfl) hf with ⟨hcs, _⟩ | ⟨x, l, c, zs, hcs, _, hl, hm, hz, _, hcell, hwz⟩
  · exact ⟨none, 0, 0, [], hcs, Rd.none_⟩
  · have hz' : zs.length = c := by simpa using hz
    have hadd : ∀ i, i < c → W.cell? (x.add i) = some (.int .u8 (zs.getD i 0)) := fun i hi => hcell i (by omega)
    refine ⟨some x, l, c, (zs.take l).map fun n => UInt8.ofNat n.toNat, hcs, by simp; omega, hl, by simpa [maxLen] using hm, (fun e => by cases e), fun hc => ?_, by simp; omega, fun hn => ?_⟩
    · obtain ⟨b, o, s⟩ := x
      have h1 := hadd 0 hc
      obtain rfl : s = none := by simpa [Addr.add] using World.cell?_spot h1
      have hlt := World.block_lt_of_cell? W _ h1
      exact ⟨b, o, rfl, by simpa [Addr.add] using hlt⟩
    · have h1 := hadd 0 (by omega)
      have hlt := World.block_lt_of_cell? W _ h1
      refine ⟨x, rfl, by rw [block_of_add] at hlt; exact hlt, fun j u hu => ?_⟩
      have hj : j < l := by
        have := (List.getElem?_eq_some_iff.1 hu).1
        simp at this; omega
      rw [hadd j (by omega)]
      have hzj : zs[j]? = some (zs[j]'(by omega)) := List.getElem?_eq_getElem (by omega)
      have hw := hwz (zs[j]'(by omega)) (List.getElem_mem _)
      simp only [List.map_map, List.getElem?_map, List.getElem?_take, if_pos hj, hzj, Option.map_some, Function.comp, Option.some.injEq] at hu
      subst hu
      simp only [List.getD, hzj, Option.getD_some, bv]
      rw [u8_of_wf hw]
theorem nat_of_wf {k : IntKind} {n : Int} (h : (Lit.int k n).wf = true) (hk : k.min = 0) : n = ((n.toNat : Nat) : Int) ∧ (n.toNat : Int) ≤ k.max := by
  simp only [Lit.wf, Bool.and_eq_true, decide_eq_true_eq] at h
  omega
theorem open_num_at {k : IntKind} {t : TypeId} (ht : Tryd.prog.underlying t = some (.int k)) (hk : k.min = 0) (hf : DataW.trod enc Tryd.prog W 0 (fun _ => true) true fuel t cs = some x) : ∃ m : Nat, cs = [.int k (m : Int)] ∧ (m : Int) ≤ k.max := by
  obtain ⟨n, h1, _, h2⟩ := DataW.trod_int ht hf
  have h3 := nat_of_wf h2 hk
  exact ⟨n.toNat, by rw [h1, ← h3.1], h3.2⟩
theorem open_u64s_at (hf : DataW.trod enc Tryd.prog W 0 (fun _ => true) true fuel 23 cs = some x) : ∃ A n c zs, cs = [.slice A n c] ∧ RdU W W.heap.size A n c zs := by
  rcases open_ints Tryd.underlying23 Tryd.underlying49 (by kernel_rfl) hf with ⟨hcs, _⟩ | ⟨x, l, c, zs, hcs, _, hl, hm, hz, _, hcell, hwz⟩
  · exact ⟨none, 0, 0, [], hcs, ⟨rfl, Nat.le_refl _, by omega, fun _ => rfl, fun h => absurd h (by omega), Reads.none_⟩, fun z h => (List.not_mem_nil h).elim⟩
  · have hz' : zs.length = c := by simpa using hz
    have hadd : ∀ i, i < c → W.cell? (x.add i) = some (.int .u64 (zs.getD i 0)) := fun i hi => hcell i (by omega)
    have hnat : ∀ z ∈ zs, z = ((z.toNat : Nat) : Int) ∧ z.toNat < 18446744073709551616 := fun z hzm => by
      have h1 := nat_of_wf (hwz z hzm) rfl
      have h2 : IntKind.u64.max = 18446744073709551615 := rfl
      exact ⟨h1.1, by omega⟩
    refine ⟨some x, l, c, (zs.take l).map Int.toNat, hcs, ⟨by simp; omega, hl, by simpa [maxLen] using hm, (fun e => by cases e), fun hc => ?_, by simp; omega, fun hn => ?_⟩, fun z h => ?_⟩
    · obtain ⟨b, o, s⟩ := x
      have h1 := hadd 0 hc
      obtain rfl : s = none := by simpa [Addr.add] using World.cell?_spot h1
      have hlt := World.block_lt_of_cell? W _ h1
      exact ⟨b, o, rfl, by simpa [Addr.add] using hlt⟩
    · have h1 := hadd 0 (by omega)
      have hlt := World.block_lt_of_cell? W _ h1
      refine ⟨x, rfl, by rw [block_of_add] at hlt; exact hlt, fun j u hu => ?_⟩
      have hj : j < l := by
        have := (List.getElem?_eq_some_iff.1 hu).1
        simp at this; omega
      rw [hadd j (by omega)]
      have hzj : zs[j]? = some (zs[j]'(by omega)) := List.getElem?_eq_getElem (by omega)
      have hw := (hnat (zs[j]'(by omega)) (List.getElem_mem _)).1
      simp only [List.map_map, List.getElem?_map, List.getElem?_take, if_pos hj, hzj, Option.map_some, Function.comp, Option.some.injEq] at hu
      subst hu
      simp only [List.getD, hzj, Option.getD_some, uv]
      rw [← hw]
    · obtain ⟨y, hy, rfl⟩ := List.mem_map.1 h
      exact (hnat y (List.mem_of_mem_take hy)).2
end
theorem open_bk {H : Type} {enc : TypeId × Value → H} {W : World} {v : Value} {d : DataW H} {p : List MemPlace} {base : Nat} (hv : Value.okWide Tryd.prog W .any base 25 v)
    (h : DataW.Trod enc Tryd.prog W 0 (fun _ => true) true 25 v d p) :
    ∃ (t : UInt8) (A1 : Option Addr) (n1 c1 : Nat) (xs : List UInt8) (A2 : Option Addr) (n2 c2 : Nat) (ys : List UInt8) (A3 : Option Addr) (n3 c3 : Nat) (zs : List Nat),
      v = .agg #[.int .u8 (t.toNat : Int), .slice A1 n1 c1, .slice A2 n2 c2, .slice A3 n3 c3] ∧ Rd W W.heap.size A1 n1 c1 xs ∧ Rd W W.heap.size A2 n2 c2 ys ∧ RdU W W.heap.size A3 n3 c3 zs := by
  obtain ⟨ws, rfl, _⟩ := okWide_struct Tryd.underlying25 hv
  obtain ⟨fuel, hf⟩ := h
  have hf : DataW.trod enc Tryd.prog W 0 (fun _ => true) true fuel 25 ws.toList = some (d, p) := hf
  obtain ⟨xs, n, _, _, hl, hxl, hfd⟩ := DataW.trod_struct Tryd.underlying25 hf
  have hl4 : ws.toList.length = 4 := hl
  have hx4 : xs.length = 4 := hxl
  obtain ⟨cs, rfl⟩ : ∃ cs : List Value, ws = cs.toArray := ⟨ws.toList, by simp⟩
  rw [List.toList_toArray] at hl4 hfd
  have hx : ∀ i, i < 4 → ∃ y, xs[i]? = some y := fun i hi => ⟨xs[i]'(by omega), List.getElem?_eq_getElem _⟩
  match cs, hl4 with
  | [q0, q1, q2, q3], _ =>
    have k0 := hfd 0 _ rfl
    have k1 := hfd 1 _ rfl
    have k2 := hfd 2 _ rfl
    have k3 := hfd 3 _ rfl
    obtain ⟨y0, e0⟩ := hx 0 (by omega)
    obtain ⟨y1, e1⟩ := hx 1 (by omega)
    obtain ⟨y2, e2⟩ := hx 2 (by omega)
    obtain ⟨y3, e3⟩ := hx 3 (by omega)
    rw [e0] at k0
    rw [e1] at k1
    rw [e2] at k2
    rw [e3] at k3
    obtain ⟨m0, r0, b0⟩ := open_num_at Tryd.underlying5 rfl k0
    obtain ⟨A1, n1, c1, zs1, r1, b1⟩ := open_bytes_at k1
    obtain ⟨A2, n2, c2, zs2, r2, b2⟩ := open_bytes_at k2
    obtain ⟨A3, n3, c3, zs3, r3, b3⟩ := open_u64s_at k3
    have s0 : [q0] = _ := r0
    have s1 : [q1] = _ := r1
    have s2 : [q2] = _ := r2
    have s3 : [q3] = _ := r3
    simp only [List.cons.injEq, and_true] at s0 s1 s2 s3
    clear r0 r1 r2 r3 k0 k1 k2 k3
    subst s0 s1 s2 s3
    have hmx : IntKind.u8.max = 255 := rfl
    refine ⟨UInt8.ofNat m0, A1, n1, c1, zs1, A2, n2, c2, zs2, A3, n3, c3, zs3, ?_, b1, b2, b3⟩
    rw [UInt8.toNat_ofNat', Nat.mod_eq_of_lt (by omega)]
end Go.Proofs.YtnfngnmajjkdbaaDoor
