/- A case's certificate with another element in its place: how it is read. Plain Lean. -/
import Derived.Test.YtmnekhliblkibaaPutEl
namespace Go.Proofs.Ytmnekhliblkibaa
open Go.RowKit
set_option maxRecDepth 100000
set_option linter.unusedVariables false
set_option linter.unusedSimpArgs false

theorem els_deep (k : Kase) (hp : k.path < 256) : ∀ y ∈ k.els, Der.thr 13 y.1 y.2.1 = 0 := by
  have hnl : ∀ s : List UInt8, (E.name (s.take 200)).2.2.length < 4294967296 := fun s => by
    rw [name_raw]
    have := name_len (s.take 200) (by rw [List.length_take]; omega)
    omega
  intro y hy
  have hyw := (els_wf k hp).1 y hy
  simp only [Kase.els, E.seven, List.mem_cons, List.not_mem_nil, or_false] at hy
  rcases hy with rfl | rfl | rfl | rfl | rfl | rfl | rfl
  · decide +kernel
  · exact thr_leaf _ rfl
  · decide +kernel
  · exact (name_wf _ (hnl k.iss)).2
  · exact validity_deep _ _
  · exact (name_wf _ (hnl k.sub)).2
  · exact key_deep hyw
/-- Any elements as a signed part. -/
theorem seq_parse (L : List El) (g : List UInt8) (hw : ∀ y ∈ L, El.wf y) (hd : ∀ y ∈ L, Der.thr 13 y.1 y.2.1 = 0) (hl : (raws L).length ≤ 6000) (hg : g.length ≤ 600) :
    El.wf (El.mk 48 (raws L)) ∧ Cert.parse (Ref.wr (Ref.seq (L.map (·.2.2))) g) = match Cert.signed Fl.bare (El.mk 48 (raws L)) with
      | none => .no 9
      | some s => .yes s g := by
  have hT : El.wf (El.mk 48 (raws L)) := El.mk_wf (by decide) (by omega)
  have hr : Ref.wr (Ref.seq (L.map (·.2.2))) g = (E.cert (El.mk 48 (raws L)) g).2.2 := by
    rw [cert_raw]
    rfl
  have hlen : (E.cert (El.mk 48 (raws L)) g).2.2.length ≤ 8192 := by
    rw [cert_raw]
    unfold Ref.wr Ref.seq
    have a0 := write_lt 48 (raws L) 6000 hl (by omega)
    have a1 := write_lt 3 (0 :: g) 601 (by simp; omega) (by omega)
    have a2 : Ref.signAlg.length = 15 := rfl
    rw [mk_raw]
    have a3 := write_lt 48 [Der.write 48 (raws L), Ref.signAlg, Der.write 3 (0 :: g)].flatten 6628 (by simp only [List.flatten_cons, List.flatten_nil, List.append_nil, List.length_append]; omega) (by omega)
    omega
  refine ⟨hT, ?_⟩
  rw [hr, cert_parse hT (thr_cons (k := 13) hw hd) hlen]
  cases Cert.signed Fl.bare (El.mk 48 (raws L)) <;> rfl
theorem raws_set (L : List El) (i : Nat) (y : El) : (raws (L.set i y)).length ≤ (raws L).length + y.2.2.length := by
  have := cat_set (L.map (·.2.2)) i y.2.2
  unfold raws
  rw [List.map_set]
  exact this
theorem put_parse (k : Kase) (hp : k.path < 256) (i : Nat) (y : El) (hy : El.wf y) (hd : Der.thr 13 y.1 y.2.1 = 0) (hl : y.2.2.length ≤ 2000) :
    Cert.parse (Ref.wr (Ref.seq ((k.els.map (·.2.2)).set i y.2.2)) (k.sig.take 100)) = (match Cert.signed Fl.bare (El.mk 48 (raws (k.els.set i y))) with
      | none => .no 9
      | some s => .yes s (k.sig.take 100)) ∧ Cert.parts 48 7 8 (El.mk 48 (raws (k.els.set i y))) = some (k.els.set i y) := by
  have hw := els_wf k hp
  have hdd := els_deep k hp
  have hw2 : ∀ z ∈ k.els.set i y, El.wf z := fun z hz => by
    rcases List.mem_or_eq_of_mem_set hz with hz | rfl
    · exact hw.1 z hz
    · exact hy
  have hd2 : ∀ z ∈ k.els.set i y, Der.thr 13 z.1 z.2.1 = 0 := fun z hz => by
    rcases List.mem_or_eq_of_mem_set hz with hz | rfl
    · exact hdd z hz
    · exact hd
  have hl2 := raws_set k.els i y
  have h := seq_parse (k.els.set i y) (k.sig.take 100) hw2 hd2 (by omega) (by rw [List.length_take]; omega)
  rw [List.map_set] at h
  refine ⟨h.2, parts_mk (by rfl) rfl hw2 ?_ ?_⟩
  · rw [List.length_set, els_len]; omega
  · rw [List.length_set, els_len]; omega
/-- The facts of a case's elements. -/
structure Kase.std (k : Kase) : Prop where
  ser : Der.int k.serial = some (1 :: k.ser.take 18)
  few : k.serial.length ≤ 20
  r1 : Stamp.right k.start = true
  r2 : Stamp.right k.stop = true
  less : Stamp.less k.stop k.start = false
  key : Cert.key (E.key k.nn (k.e % 8589934592)) = some (k.nn, k.e % 8589934592)
theorem kase_std (k : Kase) : k.std := by
  have ht := kase_times k
  refine ⟨?_, ?_, ht.1, ht.2.1, ht.2.2, ?_⟩
  · unfold Kase.serial
    rw [int_putInt, show ([1] ++ k.ser.take 18 : List UInt8) = 1 :: k.ser.take 18 from rfl, trim_stop _ (by decide)]
  · rw [kase_serial, List.length_cons, List.length_take]; omega
  · have h := key_mk k.nn (k.e % 8589934592) (Nat.mod_lt _ (by decide)) (by
      have h4 := kase_tlen k.plain
      rw [plain_tbs] at h4
      have h5 := write_ge 48 (raws k.els)
      simp only [El.mk] at h4
      have h6 := raws_mem (y := E.key k.nn (k.e % 8589934592)) (L := k.els) (by simp [Kase.els, E.seven])
      omega)
    rw [h.1, kase_nn, trim_idem]
theorem els_eq (k : Kase) : k.els = [E.version, El.mk 2 k.serial, E.alg, E.name (k.iss.take 200), E.validity k.start k.stop, E.name (k.sub.take 200), E.key k.nn (k.e % 8589934592)] := rfl
/-- A number in its place. -/
def Serial.ok (body : List UInt8) : Bool := match Der.int body with
  | none => false
  | some m => decide (0 < m.length) && decide (body.length ≤ 20)
theorem serial_parse (k : Kase) (hp : k.path < 256) (body : List UInt8) (hl : body.length ≤ 100) :
    (Serial.ok body = false ∧ Cert.parse (Ref.wr (Ref.seq ((k.els.map (·.2.2)).set 1 (Der.write 2 body))) (k.sig.take 100)) = .no 9) ∨
    (Serial.ok body = true ∧ ∃ s, Cert.parse (Ref.wr (Ref.seq ((k.els.map (·.2.2)).set 1 (Der.write 2 body))) (k.sig.take 100)) = .yes s (k.sig.take 100) ∧ s.ser = body) := by
  have hw := write_lt 2 body 100 hl (by omega)
  obtain ⟨h1, h2⟩ := put_parse k hp 1 (El.mk 2 body) (El.mk_wf (by decide) (by omega)) (thr_leaf _ rfl) (by rw [mk_raw]; omega)
  rw [mk_raw] at h1
  have hs := kase_std k
  rw [els_eq] at h2
  simp only [List.set_cons_succ, List.set_cons_zero] at h2
  have h2' : Cert.parts 48 7 8 (El.mk 48 (raws (k.els.set 1 (El.mk 2 body)))) = _ := h2
  cases hi : Der.int body with
  | none =>
    left
    refine ⟨by unfold Serial.ok; rw [hi], ?_⟩
    rw [h1]
    have : Cert.signed Fl.bare (El.mk 48 (raws (k.els.set 1 (El.mk 2 body)))) = none := by
      unfold Cert.signed
      rw [h2']
      simp only [Option.bind_some, Sg.a, Sg.b, Sg.c, List.getD_cons_zero, List.getD_cons_succ]
      rw [version_parts]
      simp only [Option.bind_some, List.getD_cons_zero]
      rw [show Cert.must ((El.mk 2 [2]).2.2 == [2, 1, 2]) = some () by decide +kernel]
      simp only [Option.bind_some]
      have : Cert.number (El.mk 2 body) = none := by
        unfold Cert.number
        rw [body_mk (by rfl)]
        exact hi
      rw [this]
      rfl
    rw [this]
  | some m =>
    by_cases hok : 0 < m.length ∧ body.length ≤ 20
    · right
      refine ⟨by unfold Serial.ok; rw [hi]; simp [hok.1, hok.2], ?_⟩
      rw [h1]
      have h := sg_std (f := Fl.bare) (M := []) version_parts (by decide +kernel) (number_mk hi) hok.1 (by show body.length ≤ 20; exact hok.2) alg_method (by rfl) (validity_parts k.start k.stop) (by rfl) (general_mk hs.r1) (general_mk hs.r2) hs.less hs.key h2'
      rw [told8_none rfl] at h
      rw [h]
      exact ⟨_, rfl, rfl⟩
    · left
      refine ⟨by unfold Serial.ok; rw [hi]; simp only [Bool.and_eq_false_iff, decide_eq_false_iff_not]; omega, ?_⟩
      rw [h1]
      have : Cert.signed Fl.bare (El.mk 48 (raws (k.els.set 1 (El.mk 2 body)))) = none := by
        unfold Cert.signed
        rw [h2']
        simp only [Option.bind_some, Sg.a, Sg.b, Sg.c, List.getD_cons_zero, List.getD_cons_succ]
        rw [version_parts]
        simp only [Option.bind_some, List.getD_cons_zero]
        rw [show Cert.must ((El.mk 2 [2]).2.2 == [2, 1, 2]) = some () by decide +kernel]
        simp only [Option.bind_some]
        rw [number_mk hi]
        simp only [Option.bind_some]
        rw [must_f (by simp only [Bool.and_eq_false_iff, decide_eq_false_iff_not]; show ¬ _ ∨ ¬ body.length ≤ 20; omega)]
        rfl
      rw [this]
end Go.Proofs.Ytmnekhliblkibaa
