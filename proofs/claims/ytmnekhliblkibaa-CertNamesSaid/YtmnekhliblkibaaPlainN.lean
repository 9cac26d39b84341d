/- Names: what stands there is told as it stands; another element than one of elements is refused. Plain Lean. -/
import Derived.Test.YtmnekhliblkibaaPlain9
namespace Go.Proofs.Ytmnekhliblkibaa
open Go.RowKit
set_option maxRecDepth 100000
set_option linter.unusedVariables false
set_option linter.unusedSimpArgs false

def E.one (a : List UInt8) : El := El.mk 48 (raws [El.mk 4 a])
def E.two (a b : List UInt8) : El := El.mk 48 (raws [El.mk 12 b, El.mk 4 a])
theorem one_raw (a : List UInt8) : (E.one a).2.2 = Ref.seq [Der.write 4 a] := rfl
theorem two_raw (a b : List UInt8) : (E.two a b).2.2 = Ref.seq [Der.write 12 b, Der.write 4 a] := rfl
theorem one_wf (a : List UInt8) (h : a.length ≤ 300) : El.wf (E.one a) ∧ (E.one a).2.2.length ≤ 320 ∧ Der.thr 13 (E.one a).1 (E.one a).2.1 = 0 := by
  have h1 := write_lt 4 a 300 h (by omega)
  have hr : (raws [El.mk 4 a]).length ≤ 306 := by rw [raws_cons, raws_nil, List.append_nil, mk_raw]; omega
  have h2 := write_lt 48 (raws [El.mk 4 a]) 306 hr (by omega)
  have w1 : El.wf (El.mk 4 a) := El.mk_wf (by decide) (by omega)
  refine ⟨El.mk_wf (by decide) (by omega), by unfold E.one; rw [mk_raw]; omega, thr_cons (k := 12) (fun y hy => by rw [List.mem_singleton.1 hy]; exact w1) (fun y hy => by rw [List.mem_singleton.1 hy]; exact thr_leaf _ rfl)⟩
theorem two_wf (a b : List UInt8) (h : a.length ≤ 300) (hb : b.length ≤ 300) : El.wf (E.two a b) ∧ (E.two a b).2.2.length ≤ 630 ∧ Der.thr 13 (E.two a b).1 (E.two a b).2.1 = 0 := by
  have h1 := write_lt 4 a 300 h (by omega)
  have h1' := write_lt 12 b 300 hb (by omega)
  have hr : (raws [El.mk 12 b, El.mk 4 a]).length ≤ 612 := by rw [raws_cons, raws_cons, raws_nil, List.append_nil, mk_raw, mk_raw, List.length_append]; omega
  have h2 := write_lt 48 (raws [El.mk 12 b, El.mk 4 a]) 612 hr (by omega)
  have w1 : ∀ y ∈ [El.mk 12 b, El.mk 4 a], El.wf y := fun y hy => by
    simp only [List.mem_cons, List.not_mem_nil, or_false] at hy
    rcases hy with rfl | rfl
    · exact El.mk_wf (by decide) (by omega)
    · exact El.mk_wf (by decide) (by omega)
  refine ⟨El.mk_wf (by decide) (by omega), by unfold E.two; rw [mk_raw]; omega, thr_cons (k := 12) w1 (fun y hy => ?_)⟩
  simp only [List.mem_cons, List.not_mem_nil, or_false] at hy
  rcases hy with rfl | rfl
  · exact thr_leaf _ rfl
  · exact thr_leaf _ rfl
theorem names_parse (k : Kase) (hp : k.path < 256) (a b : List UInt8) (ha : a.length ≤ 300) (hb : b.length ≤ 300) :
    ∃ s, Cert.parse (Ref.wr (Ref.seq (((k.els.map (·.2.2)).set 3 (Ref.seq [Der.write 4 a])).set 5 (Ref.seq [Der.write 12 b, Der.write 4 a]))) []) = .yes s [] ∧ s.iss = Ref.seq [Der.write 4 a] ∧ s.sub = Ref.seq [Der.write 12 b, Der.write 4 a] := by
  have h1 := one_wf a ha
  have h2 := two_wf a b ha hb
  have hw := els_wf k hp
  have hdd := els_deep k hp
  have hw2 : ∀ z ∈ (k.els.set 3 (E.one a)).set 5 (E.two a b), El.wf z ∧ Der.thr 13 z.1 z.2.1 = 0 := fun z hz => by
    rcases List.mem_or_eq_of_mem_set hz with hz | rfl
    · rcases List.mem_or_eq_of_mem_set hz with hz | rfl
      · exact ⟨hw.1 z hz, hdd z hz⟩
      · exact ⟨h1.1, h1.2.2⟩
    · exact ⟨h2.1, h2.2.2⟩
  have hl1 := raws_set k.els 3 (E.one a)
  have hl2 := raws_set (k.els.set 3 (E.one a)) 5 (E.two a b)
  have h := seq_parse ((k.els.set 3 (E.one a)).set 5 (E.two a b)) [] (fun z hz => (hw2 z hz).1) (fun z hz => (hw2 z hz).2) (by omega) (by simp)
  rw [List.map_set, List.map_set, one_raw, two_raw] at h
  rw [h.2]
  have hs := kase_std k
  have hpp : Cert.parts 48 7 8 (El.mk 48 (raws ((k.els.set 3 (E.one a)).set 5 (E.two a b)))) = some ((k.els.set 3 (E.one a)).set 5 (E.two a b)) :=
    parts_mk (by rfl) rfl (fun z hz => (hw2 z hz).1) (by rw [List.length_set, List.length_set, els_len]; omega) (by rw [List.length_set, List.length_set, els_len]; omega)
  have hq : (k.els.set 3 (E.one a)).set 5 (E.two a b) = [E.version, El.mk 2 k.serial, E.alg, E.one a, E.validity k.start k.stop, E.two a b, E.key k.nn (k.e % 8589934592)] := rfl
  have hpp2 := hpp.trans (congrArg some hq)
  have h9 := sg_std (f := Fl.bare) (M := []) version_parts (by decide +kernel) (number_mk hs.ser) (by simp) (by show k.serial.length ≤ 20; exact hs.few) alg_method (by rfl) (validity_parts k.start k.stop) (by rfl) (general_mk hs.r1) (general_mk hs.r2) hs.less hs.key hpp2
  rw [told8_none rfl] at h9
  rw [h9]
  exact ⟨_, rfl, one_raw a, two_raw a b⟩
/-- Something that is no element behind some that are. -/
theorem seqF_bad : ∀ (P : List El) (bad : List UInt8) (k : Nat), (∀ y ∈ P, El.wf y) → Der.elem bad = none → bad ≠ [] → (raws P ++ bad).length ≤ k → (Der.seqF k (raws P ++ bad)).any (·.isNone) = true
  | [], bad, k, _, he, hb, hk => by
    rw [raws_nil, List.nil_append] at hk ⊢
    obtain ⟨k, rfl⟩ : ∃ m, k = m + 1 := ⟨k - 1, by have := List.length_pos_iff.2 hb; omega⟩
    rw [Der.seqF, if_neg hb, he]
    rfl
  | x :: P, bad, k, h, he, hb, hk => by
    have hx := h x (by simp)
    have hp := wf_pos hx
    rw [raws_cons, List.append_assoc] at hk ⊢
    rw [List.length_append] at hk
    obtain ⟨k, rfl⟩ : ∃ m, k = m + 1 := ⟨k - 1, by omega⟩
    rw [Der.seqF, if_neg (by intro e; have := congrArg List.length e; rw [List.length_append] at this; simp at this; rw [this.1] at hp; simp at hp), elem_wf hx]
    simp only [List.any_cons]
    rw [seqF_bad P bad k (fun y hy => h y (by simp [hy])) he hb (by omega)]
    simp
theorem put3_parse (k : Kase) (hp : k.path < 256) (t : UInt8) (a : List UInt8) (ht : t.toNat / 32 % 2 = 0) (ha : a.length ≤ 300) :
    Cert.parse (Ref.wr (Ref.seq ((k.els.map (·.2.2)).set 3 (Der.write t a))) (k.sig.take 100)) = .no 9 := by
  have hlw := write_lt t a 300 ha (by omega)
  by_cases h31 : t.toNat % 32 = 31
  · have hw := els_wf k hp
    have hset : ((k.els.map (·.2.2)).set 3 (Der.write t a)).flatten = raws (k.els.take 3) ++ (Der.write t a ++ raws (k.els.drop 4)) := by
      rw [els_eq]
      simp [raws]
    have hbad : Der.elem (Der.write t a ++ raws (k.els.drop 4)) = none := by
      rw [Der.elem_write _ _ _ (by omega), if_pos h31]
    have hlen : (raws (k.els.take 3) ++ (Der.write t a ++ raws (k.els.drop 4))).length ≤ 4400 := by
      have h1 := cat_set (k.els.map (·.2.2)) 3 (Der.write t a)
      have h2 := els_cat k hp
      rw [hset] at h1
      omega
    have hany : (Der.seq (raws (k.els.take 3) ++ (Der.write t a ++ raws (k.els.drop 4)))).any (·.isNone) = true :=
      seqF_bad (k.els.take 3) _ _ (fun y hy => hw.1 y (List.mem_of_mem_take hy)) hbad (by simp [Der.write]) (Nat.le_refl _)
    have hT : El.wf (El.mk 48 (raws (k.els.take 3) ++ (Der.write t a ++ raws (k.els.drop 4)))) := El.mk_wf (by decide) (by omega)
    have hthr : Der.thr 14 48 (raws (k.els.take 3) ++ (Der.write t a ++ raws (k.els.drop 4))) = 9 := by
      rw [Der.thr, if_neg, if_pos hany]
      unfold Der.leaf
      have : (raws (k.els.take 3) ++ (Der.write t a ++ raws (k.els.drop 4))).isEmpty = false := by
        cases hq : raws (k.els.take 3) ++ (Der.write t a ++ raws (k.els.drop 4)) with
        | nil => have := congrArg List.length hq; simp [Der.write] at this
        | cons x r => rfl
      rw [this]
      decide
    have hr : Ref.wr (Ref.seq ((k.els.map (·.2.2)).set 3 (Der.write t a))) (k.sig.take 100) = (E.cert (El.mk 48 (raws (k.els.take 3) ++ (Der.write t a ++ raws (k.els.drop 4)))) (k.sig.take 100)).2.2 := by
      rw [cert_raw]
      unfold Ref.seq
      rw [hset, mk_raw]
    have hl : (E.cert (El.mk 48 (raws (k.els.take 3) ++ (Der.write t a ++ raws (k.els.drop 4)))) (k.sig.take 100)).2.2.length ≤ 8192 := by
      rw [cert_raw, mk_raw]
      unfold Ref.wr Ref.seq
      have a0 := write_lt 48 (raws (k.els.take 3) ++ (Der.write t a ++ raws (k.els.drop 4))) 4400 hlen (by omega)
      have a1 := write_lt 3 (0 :: k.sig.take 100) 101 (by simp; omega) (by omega)
      have a2 : Ref.signAlg.length = 15 := rfl
      have a3 := write_lt 48 [Der.write 48 (raws (k.els.take 3) ++ (Der.write t a ++ raws (k.els.drop 4))), Ref.signAlg, Der.write 3 (0 :: k.sig.take 100)].flatten 5000 (by simp only [List.flatten_cons, List.flatten_nil, List.append_nil, List.length_append]; omega) (by omega)
      omega
    have hcw := cert_wf hT hl
    rw [hr]
    refine parse_bad hl ?_
    rw [check_mk hcw.1]
    show Der.thr 15 48 (raws [El.mk 48 (raws (k.els.take 3) ++ (Der.write t a ++ raws (k.els.drop 4))), E.alg, El.mk 3 (0 :: k.sig.take 100)]) = 9
    rw [Der.thr, seq_mk hcw.2, if_neg, if_neg (by simp [List.any_map, Function.comp_def])]
    · rw [List.map_cons]
      show (if Der.thr 14 48 (raws (k.els.take 3) ++ (Der.write t a ++ raws (k.els.drop 4))) = 0 then _ else Der.thr 14 48 (raws (k.els.take 3) ++ (Der.write t a ++ raws (k.els.drop 4)))) = 9
      rw [hthr, if_neg (by decide)]
    · unfold Der.leaf
      have : (raws [El.mk 48 (raws (k.els.take 3) ++ (Der.write t a ++ raws (k.els.drop 4))), E.alg, El.mk 3 (0 :: k.sig.take 100)]).isEmpty = false := rfl
      rw [this]
      decide
  · obtain ⟨h1, h2⟩ := put_parse k hp 3 (El.mk t a) (El.mk_wf h31 (by omega)) (thr_leaf _ ht) (by rw [mk_raw]; omega)
    rw [mk_raw] at h1
    rw [h1]
    have hs := kase_std k
    have hq : k.els.set 3 (El.mk t a) = [E.version, El.mk 2 k.serial, E.alg, El.mk t a, E.validity k.start k.stop, E.name (k.sub.take 200), E.key k.nn (k.e % 8589934592)] := rfl
    have h2' := h2.trans (congrArg some hq)
    have : Cert.signed Fl.bare (El.mk 48 (raws (k.els.set 3 (El.mk t a)))) = none := by
      unfold Cert.signed
      rw [h2']
      simp only [Option.bind_some, Sg.a, Sg.b, Sg.c, Sg.d, Sg.e_, List.getD_cons_zero, List.getD_cons_succ]
      rw [version_parts]
      simp only [Option.bind_some, List.getD_cons_zero]
      rw [show Cert.must ((El.mk 2 [2]).2.2 == [2, 1, 2]) = some () by decide +kernel]
      simp only [Option.bind_some]
      rw [number_mk hs.ser]
      simp only [Option.bind_some]
      rw [must_t (by simp only [Bool.and_eq_true, decide_eq_true_eq]; exact ⟨by simp, hs.few⟩)]
      simp only [Option.bind_some]
      rw [alg_method]
      simp only [Option.bind_some]
      rw [body_no (by
        intro e
        have e : (t.toNat : Int) = 48 := e
        omega)]
      rfl
    rw [this]
theorem andnot_ok : ∀ tag < 256, 0 ≤ bits .andNot .u8 ((tag : Nat) : Int) 32 ∧ bits .andNot .u8 ((tag : Nat) : Int) 32 < 256 ∧ (bits .andNot .u8 ((tag : Nat) : Int) 32).toNat / 32 % 2 = 0 := by decide +kernel
end Go.Proofs.Ytmnekhliblkibaa
