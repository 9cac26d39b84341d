/- Arguments opened: a case with a limit that came in. -/
import Derived.Test.YtmnekhliblkibaaPaths2
namespace Go.Proofs.Ytmnekhliblkibaa
open Go.ChangeShapes Go.WideShapes Go.ChangeAt Go.RowKit
set_option maxRecDepth 100000

theorem open_limit {H : Type} {enc : TypeId × Value → H} {W : World} {v : Value} {d : DataW H} {p : List MemPlace} {base : Nat} (hv : Value.okWide Try.prog W .any base 65 v)
    (h : DataW.Trod enc Try.prog W 0 (fun _ => true) true 65 v d p) :
    ∃ (k : Kase) (A0 A1 A2 : Option Addr) (n0 c0 n1 c1 n2 c2 : Nat) (ca told : Bool) (q : Nat), v = .agg (k.lrow (.slice A0 n0 c0) (.slice A1 n1 c1) (.slice A2 n2 c2) ca told q) ∧
      k.come W A0 A1 A2 n0 c0 n1 c1 n2 c2 ∧ q < 65536 := by
  obtain ⟨ca, rfl, _⟩ := okWide_struct Try.underlying65 hv
  obtain ⟨fuel, hf⟩ := h
  have hf' : DataW.trod enc Try.prog W 0 (fun _ => true) true fuel 65 ca.toList = some (d, p) := hf
  obtain ⟨xs, n, _, _, hl, hxl, hfd⟩ := DataW.trod_struct Try.underlying65 hf'
  have hl25 : ca.toList.length = 25 := hl
  have hx4 : xs.length = 4 := hxl
  have hx : ∀ i, i < 4 → ∃ y, xs[i]? = some y := fun i hi => ⟨xs[i]'(by omega), List.getElem?_eq_getElem _⟩
  obtain ⟨y0, e0⟩ := hx 0 (by omega)
  obtain ⟨y1, e1⟩ := hx 1 (by omega)
  obtain ⟨y2, e2⟩ := hx 2 (by omega)
  obtain ⟨y3, e3⟩ := hx 3 (by omega)
  have k0 := (hfd 0 _ rfl).trans e0
  have k1 := (hfd 1 _ rfl).trans e1
  have k2 := (hfd 2 _ rfl).trans e2
  have k3 := (hfd 3 _ rfl).trans e3
  obtain ⟨k, A0, A1, A2, n0, c0, n1, c1, n2, c2, hke, hk⟩ := open_case_at k0
  obtain ⟨b1, q1, _⟩ := DataW.trod_bool Try.underlying4 k1
  obtain ⟨b2, q2, _⟩ := DataW.trod_bool Try.underlying4 k2
  obtain ⟨q, q3, g3⟩ := open_num_at Try.underlying25 rfl k3
  have r0 : ((ca.toList.drop 0).take 22).toArray = k.row (.slice A0 n0 c0) (.slice A1 n1 c1) (.slice A2 n2 c2) := by
    have h1 : Value.agg ((ca.toList.drop 0).take 22).toArray = .agg (k.row (.slice A0 n0 c0) (.slice A1 n1 c1) (.slice A2 n2 c2)) := hke
    injection h1
  have r1 : (ca.toList.drop 22).take 1 = [.bool b1] := q1
  have r2 : (ca.toList.drop 23).take 1 = [.bool b2] := q2
  have r3 : (ca.toList.drop 24).take 1 = [.int .u16 (q : Int)] := q3
  have hmx : IntKind.u16.max = 65535 := rfl
  refine ⟨k, A0, A1, A2, n0, c0, n1, c1, n2, c2, b1, b2, q, ?_, hk, by omega⟩
  have hsplit : ca.toList = (ca.toList.drop 0).take 22 ++ ((ca.toList.drop 22).take 1 ++ ((ca.toList.drop 23).take 1 ++ (ca.toList.drop 24).take 1)) := by
    generalize ca.toList = l at hl25
    match l, hl25 with
    | [_, _, _, _, _, _, _, _, _, _, _, _, _, _, _, _, _, _, _, _, _, _, _, _, _], _ => rfl
  rw [r1, r2, r3] at hsplit
  have : ca = k.row (.slice A0 n0 c0) (.slice A1 n1 c1) (.slice A2 n2 c2) ++ #[.bool b1, .bool b2, .int .u16 (q : Int)] := by
    rw [← r0]
    apply Array.toList_inj.1
    rw [Array.toList_append]
    exact hsplit
  rw [this]
  rfl
end Go.Proofs.Ytmnekhliblkibaa
