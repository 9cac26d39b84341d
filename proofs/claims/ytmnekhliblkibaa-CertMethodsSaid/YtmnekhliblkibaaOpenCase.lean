/- Arguments opened: a case that came in. -/
import Derived.Test.YtmnekhliblkibaaGR
import Derived.Test.YtmnekhliblkibaaGP
import Derived.ProofKit
import Derived.OpenShut
import Derived.KernelRfl
namespace Go.Proofs.Ytmnekhliblkibaa
open Go.ChangeShapes Go.WideShapes Go.ChangeAt Go.RowKit
set_option maxRecDepth 100000

section
variable {H : Type} {enc : TypeId × Value → H} {W : World} {fuel : Nat} {cs : List Value} {x : DataW H × List MemPlace}
theorem open_bytes_at (hf : DataW.trod enc Try.prog W 0 (fun _ => true) true fuel 22 cs = some x) : ∃ A n c xs, cs = [.slice A n c] ∧ Rd W W.heap.size A n c xs := by
  rcases open_ints Try.underlying22 Try.underlying5 (by kernel_rfl) hf with ⟨hcs, _⟩ | ⟨x, l, c, zs, hcs, _, hl, hm, hz, _, hcell, hwz⟩
  · exact ⟨none, 0, 0, [], hcs, Rd.none_⟩
  · have hz' : zs.length = c := by simpa using hz
    have hadd : ∀ i, i < c → W.cell? (x.add i) = some (.int .u8 (zs.getD i 0)) := fun i hi => hcell i (by omega)
    refine ⟨some x, l, c, (zs.take l).map fun n => UInt8.ofNat n.toNat, hcs, by simp; omega, hl, by simpa [maxLen] using hm, (fun e => by cases e), fun hc => ?_, by simp; omega, fun hn => ?_⟩
    · obtain ⟨b, o, s⟩ := x
      have h1 := hadd 0 hc
      obtain rfl : s = none := by simpa [Addr.add] using World.cell?_spot h1
      have hlt := World.block_lt_of_cell? W _ h1
      exact ⟨b, o, rfl, by simpa [Addr.add] using hlt⟩
    · have h1 := hadd 0 (by omega)
      have hlt := World.block_lt_of_cell? W _ h1
      refine ⟨x, rfl, by rw [block_of_add] at hlt; exact hlt, fun j u hu => ?_⟩
      have hj : j < l := by
        have := (List.getElem?_eq_some_iff.1 hu).1
        simp at this; omega
      rw [hadd j (by omega)]
      have hzj : zs[j]? = some (zs[j]'(by omega)) := List.getElem?_eq_getElem (by omega)
      have hw := hwz (zs[j]'(by omega)) (List.getElem_mem _)
      simp only [List.map_map, List.getElem?_map, List.getElem?_take, if_pos hj, hzj, Option.map_some, Function.comp, Option.some.injEq] at hu
      subst hu
      simp only [List.getD, hzj, Option.getD_some, bv]
      rw [u8_of_wf hw]
theorem nat_of_wf {k : IntKind} {n : Int} (h : (Lit.int k n).wf = true) (hk : k.min = 0) : n = ((n.toNat : Nat) : Int) ∧ (n.toNat : Int) ≤ k.max := by
  simp only [Lit.wf, Bool.and_eq_true, decide_eq_true_eq] at h
  omega
theorem open_num_at {k : IntKind} {t : TypeId} (ht : Try.prog.underlying t = some (.int k)) (hk : k.min = 0) (hf : DataW.trod enc Try.prog W 0 (fun _ => true) true fuel t cs = some x) : ∃ m : Nat, cs = [.int k (m : Int)] ∧ (m : Int) ≤ k.max := by
  obtain ⟨n, h1, _, h2⟩ := DataW.trod_int ht hf
  have h3 := nat_of_wf h2 hk
  exact ⟨n.toNat, by rw [h1, ← h3.1], h3.2⟩
theorem open_str_at (hf : DataW.trod enc Try.prog W 0 (fun _ => true) true fuel 9 cs = some x) : ∃ s : List UInt8, cs = [.string ⟨s.toArray⟩] ∧ s.length ≤ 9223372036854775807 := by
  obtain ⟨s, h1, _, h2⟩ := DataW.trod_string Try.underlying9 hf
  refine ⟨s.data.toList, by rw [h1], ?_⟩
  have : s.data.toList.length = s.size := Array.length_toList
  rw [this]
  exact h2
theorem open_time_at (hf : DataW.trod enc Try.prog W 0 (fun _ => true) true fuel 27 cs = some x) :
    ∃ t : Tm, t.fits ∧ cs = [.int .u16 (t.y : Int), .int .u8 (t.mo : Int), .int .u8 (t.d : Int), .int .u8 (t.h : Int), .int .u8 (t.mi : Int), .int .u8 (t.s : Int)] := by
  obtain ⟨xs, n, _, _, hl, hxl, hfd⟩ := DataW.trod_struct Try.underlying27 hf
  have hx6 : xs.length = 6 := hxl
  have hl6 : cs.length = 6 := hl
  match cs, hl6 with
  | [c0, c1, c2, c3, c4, c5], _ =>
    have k0 := hfd 0 _ rfl
    have k1 := hfd 1 _ rfl
    have k2 := hfd 2 _ rfl
    have k3 := hfd 3 _ rfl
    have k4 := hfd 4 _ rfl
    have k5 := hfd 5 _ rfl
    have hx : ∀ i, i < 6 → ∃ y, xs[i]? = some y := fun i hi => ⟨xs[i]'(by omega), List.getElem?_eq_getElem _⟩
    obtain ⟨y0, e0⟩ := hx 0 (by omega)
    obtain ⟨y1, e1⟩ := hx 1 (by omega)
    obtain ⟨y2, e2⟩ := hx 2 (by omega)
    obtain ⟨y3, e3⟩ := hx 3 (by omega)
    obtain ⟨y4, e4⟩ := hx 4 (by omega)
    obtain ⟨y5, e5⟩ := hx 5 (by omega)
    rw [e0] at k0
    rw [e1] at k1
    rw [e2] at k2
    rw [e3] at k3
    rw [e4] at k4
    rw [e5] at k5
    obtain ⟨m0, q0, b0⟩ := open_num_at Try.underlying25 rfl k0
    obtain ⟨m1, q1, b1⟩ := open_num_at Try.underlying5 rfl k1
    obtain ⟨m2, q2, b2⟩ := open_num_at Try.underlying5 rfl k2
    obtain ⟨m3, q3, b3⟩ := open_num_at Try.underlying5 rfl k3
    obtain ⟨m4, q4, b4⟩ := open_num_at Try.underlying5 rfl k4
    obtain ⟨m5, q5, b5⟩ := open_num_at Try.underlying5 rfl k5
    have r0 : [c0] = _ := q0
    have r1 : [c1] = _ := q1
    have r2 : [c2] = _ := q2
    have r3 : [c3] = _ := q3
    have r4 : [c4] = _ := q4
    have r5 : [c5] = _ := q5
    simp only [List.cons.injEq, and_true] at r0 r1 r2 r3 r4 r5
    subst r0 r1 r2 r3 r4 r5
    have hmx : IntKind.u8.max = 255 := rfl
    have hmy : IntKind.u16.max = 65535 := rfl
    exact ⟨⟨m0, m1, m2, m3, m4, m5⟩, ⟨by show m0 < 65536; omega, by show m1 < 256; omega, by show m2 < 256; omega, by show m3 < 256; omega, by show m4 < 256; omega, by show m5 < 256; omega⟩, rfl⟩
end
/-- What a case that came in is. -/
structure Kase.come (k : Kase) (W : World) (A0 A1 A2 : Option Addr) (n0 c0 n1 c1 n2 c2 : Nat) : Prop where
  r0 : Rd W W.heap.size A0 n0 c0 k.ser
  r1 : Rd W W.heap.size A1 n1 c1 k.n
  r2 : Rd W W.heap.size A2 n2 c2 k.sig
  iss : k.iss.length ≤ 9223372036854775807
  sub : k.sub.length ≤ 9223372036854775807
  from_ : k.from_.fits
  to : k.to.fits
  e : k.e < 18446744073709551616
  path : k.path < 256
  usage : k.usage < 256
theorem open_case_at {H : Type} {enc : TypeId × Value → H} {W : World} {fuel : Nat} {cs : List Value} {x : DataW H × List MemPlace} (hf : DataW.trod enc Try.prog W 0 (fun _ => true) true fuel 42 cs = some x) :
    ∃ (k : Kase) (A0 A1 A2 : Option Addr) (n0 c0 n1 c1 n2 c2 : Nat), Value.agg cs.toArray = k.val (.slice A0 n0 c0) (.slice A1 n1 c1) (.slice A2 n2 c2) ∧ k.come W A0 A1 A2 n0 c0 n1 c1 n2 c2 := by
  obtain ⟨xs, n, _, _, hl, hxl, hfd⟩ := DataW.trod_struct Try.underlying42 hf
  have hl22 : cs.length = 22 := hl
  have hx13 : xs.length = 12 := hxl
  have hx : ∀ i, i < 12 → ∃ y, xs[i]? = some y := fun i hi => ⟨xs[i]'(by omega), List.getElem?_eq_getElem _⟩
  have each : ∀ (i : Nat) (f : Field) (fs : Array Field), i < 12 → Try.prog.underlying 42 = some (.struct fs) → fs[i]? = some f → ∃ y, DataW.trod enc Try.prog W 0 (fun _ => true) true n f.type ((cs.drop f.offset).take (Try.prog.cellsOf f.type)) = some y := fun i f fs hi hu hfi => by
    rw [Try.underlying42] at hu
    injection hu with hu
    injection hu with hu
    subst hu
    obtain ⟨y, hy⟩ := hx i hi
    exact ⟨y, (hfd i f hfi).trans hy⟩
  clear hfd
  match cs, hl22 with
  | [c0, c1, c2, c3, c4, c5, c6, c7, c8, c9, c10, c11, c12, c13, c14, c15, c16, c17, c18, c19, c20, c21], _ =>
    obtain ⟨y0, k0⟩ := each 0 _ _ (by omega) Try.underlying42 rfl
    obtain ⟨y1, k1⟩ := each 1 _ _ (by omega) Try.underlying42 rfl
    obtain ⟨y2, k2⟩ := each 2 _ _ (by omega) Try.underlying42 rfl
    obtain ⟨y3, k3⟩ := each 3 _ _ (by omega) Try.underlying42 rfl
    obtain ⟨y4, k4⟩ := each 4 _ _ (by omega) Try.underlying42 rfl
    obtain ⟨y5, k5⟩ := each 5 _ _ (by omega) Try.underlying42 rfl
    obtain ⟨y6, k6⟩ := each 6 _ _ (by omega) Try.underlying42 rfl
    obtain ⟨y7, k7⟩ := each 7 _ _ (by omega) Try.underlying42 rfl
    obtain ⟨y8, k8⟩ := each 8 _ _ (by omega) Try.underlying42 rfl
    obtain ⟨y9, k9⟩ := each 9 _ _ (by omega) Try.underlying42 rfl
    obtain ⟨y10, k10⟩ := each 10 _ _ (by omega) Try.underlying42 rfl
    obtain ⟨y11, k11⟩ := each 11 _ _ (by omega) Try.underlying42 rfl
    clear each hx
    obtain ⟨A0, n0, d0, z0, q0, g0⟩ := open_bytes_at k0
    obtain ⟨A1, n1, d1, z1, q1, g1⟩ := open_bytes_at k1
    obtain ⟨A2, n2, d2, z2, q2, g2⟩ := open_bytes_at k2
    obtain ⟨s3, q3, g3⟩ := open_str_at k3
    obtain ⟨s4, q4, g4⟩ := open_str_at k4
    obtain ⟨t5, g5, q5⟩ := open_time_at k5
    obtain ⟨t6, g6, q6⟩ := open_time_at k6
    obtain ⟨m7, q7, g7⟩ := open_num_at Try.underlying28 rfl k7
    obtain ⟨b8, q8, _⟩ := DataW.trod_bool Try.underlying4 k8
    obtain ⟨b9, q9, _⟩ := DataW.trod_bool Try.underlying4 k9
    obtain ⟨m10, q10, g10⟩ := open_num_at Try.underlying5 rfl k10
    obtain ⟨m11, q11, g11⟩ := open_num_at Try.underlying5 rfl k11
    have r0 : [c0] = _ := q0
    have r1 : [c1] = _ := q1
    have r2 : [c2] = _ := q2
    have r3 : [c3] = _ := q3
    have r4 : [c4] = _ := q4
    have r5 : [c5, c6, c7, c8, c9, c10] = _ := q5
    have r6 : [c11, c12, c13, c14, c15, c16] = _ := q6
    have r7 : [c17] = _ := q7
    have r8 : [c18] = _ := q8
    have r9 : [c19] = _ := q9
    have r10 : [c20] = _ := q10
    have r11 : [c21] = _ := q11
    simp only [List.cons.injEq, and_true] at r0 r1 r2 r3 r4 r5 r6 r7 r8 r9 r10 r11
    obtain ⟨e0, e1, e2, e3, e4, e5⟩ := r5
    obtain ⟨f0, f1, f2, f3, f4, f5⟩ := r6
    subst r0 r1 r2 r3 r4 e0 e1 e2 e3 e4 e5 f0 f1 f2 f3 f4 f5 r7 r8 r9 r10 r11
    have hmx : IntKind.u8.max = 255 := rfl
    have hmy : IntKind.u64.max = 18446744073709551615 := rfl
    exact ⟨⟨z0, z1, z2, s3, s4, t5, t6, m7, b8, b9, m10, m11⟩, A0, A1, A2, n0, d0, n1, d1, n2, d2, rfl, g0, g1, g2, g3, g4, g5, g6, by show m7 < _; omega, by show m10 < _; omega, by show m11 < _; omega⟩
theorem open_case {H : Type} {enc : TypeId × Value → H} {W : World} {v : Value} {d : DataW H} {p : List MemPlace} {base : Nat} (hv : Value.okWide Try.prog W .any base 42 v)
    (h : DataW.Trod enc Try.prog W 0 (fun _ => true) true 42 v d p) :
    ∃ (k : Kase) (A0 A1 A2 : Option Addr) (n0 c0 n1 c1 n2 c2 : Nat), v = k.val (.slice A0 n0 c0) (.slice A1 n1 c1) (.slice A2 n2 c2) ∧ k.come W A0 A1 A2 n0 c0 n1 c1 n2 c2 := by
  obtain ⟨cs, rfl, _⟩ := okWide_struct Try.underlying42 hv
  obtain ⟨fuel, hf⟩ := h
  obtain ⟨k, A0, A1, A2, n0, c0, n1, c1, n2, c2, e, hk⟩ := open_case_at (cs := cs.toList) hf
  exact ⟨k, A0, A1, A2, n0, c0, n1, c1, n2, c2, by rw [← e, Array.toArray_toList], hk⟩
end Go.Proofs.Ytmnekhliblkibaa
