/- Methods of signing and kinds of keys: how a certificate with another one is read. Plain Lean. -/
import Derived.Test.YtmnekhliblkibaaPlainP
namespace Go.Proofs.Ytmnekhliblkibaa
open Go.RowKit
set_option maxRecDepth 100000
set_option linter.unusedVariables false
set_option linter.unusedSimpArgs false

/-- A method, written. -/
def E.algo (b : List UInt8) : El := El.mk 48 (raws [El.mk 6 b, El.mk 5 []])
theorem algo_raw (b : List UInt8) : (E.algo b).2.2 = Ref.seq [Der.write 6 b, [5, 0]] := by
  have h5 : Der.write 5 [] = [5, 0] := by decide +kernel
  unfold E.algo Ref.seq
  rw [mk_raw, raws_cons, raws_cons, raws_nil, mk_raw, mk_raw, h5]
  rfl
theorem algo_len (b : List UInt8) (h : b.length ≤ 300) : (raws [El.mk 6 b, El.mk 5 []]).length ≤ 320 ∧ (E.algo b).2.2.length ≤ 330 := by
  have a1 := write_lt 6 b 300 h (by omega)
  have a2 := write_lt 5 [] 0 (by simp) (by omega)
  have hl : (raws [El.mk 6 b, El.mk 5 []]).length ≤ 312 := by
    rw [raws_cons, raws_cons, raws_nil, List.append_nil, List.length_append, mk_raw, mk_raw]
    omega
  have a3 := write_lt 48 _ 312 hl (by omega)
  refine ⟨by omega, ?_⟩
  unfold E.algo
  rw [mk_raw]
  omega
theorem algo_wf (b : List UInt8) (h : b.length ≤ 300) : El.wf (E.algo b) ∧ Der.thr 12 (E.algo b).1 (E.algo b).2.1 = 0 ∧ (∀ y ∈ [El.mk 6 b, El.mk 5 []], El.wf y) ∧ Der.thr 13 (E.algo b).1 (E.algo b).2.1 = 0 ∧ Der.thr 14 (E.algo b).1 (E.algo b).2.1 = 0 := by
  have hl := (algo_len b h).1
  have hw : ∀ y ∈ [El.mk 6 b, El.mk 5 []], El.wf y := fun y hy => by
    simp only [List.mem_cons, List.not_mem_nil, or_false] at hy
    rcases hy with rfl | rfl
    · exact El.mk_wf (by decide) (by omega)
    · exact El.mk_wf (by decide) (by decide)
  have ht : ∀ k, Der.thr (k + 1) (E.algo b).1 (E.algo b).2.1 = 0 := fun k => thr_cons hw (fun y hy => by
    simp only [List.mem_cons, List.not_mem_nil, or_false] at hy
    rcases hy with rfl | rfl
    · exact thr_leaf _ rfl
    · exact thr_leaf _ rfl)
  exact ⟨El.mk_wf (by decide) (by omega), ht 11, hw, ht 12, ht 13⟩
theorem algo_method (last : Nat) {b : List UInt8} {o : List Nat} (ho : Der.oid b = some o) (h : b.length ≤ 300) : Cert.method last (E.algo b) = if o = [1, 2, 840, 113549, 1, 1, last] then some () else none := by
  unfold Cert.method
  rw [parts_mk (L := [El.mk 6 b, El.mk 5 []]) (by rfl) rfl (algo_wf b h).2.2.1 (by simp) (by simp)]
  have ha : Cert.arcs (El.mk 6 b) = some o := by
    unfold Cert.arcs
    rw [body_mk (by rfl)]
    exact ho
  simp only [Option.bind_some, List.getD_cons_zero, List.getD_cons_succ]
  rw [ha]
  simp only [Option.bind_some]
  by_cases h1 : o = [1, 2, 840, 113549, 1, 1, last]
  · rw [if_pos h1, must_t (by rw [beq_iff_eq]; exact h1)]
    simp only [Option.bind_some]
    exact must_t (by decide +kernel)
  · rw [if_neg h1, must_f (by rw [beq_eq_false_iff_ne]; exact h1)]
    rfl
def X.signOid : List UInt8 := [42, 134, 72, 134, 247, 13, 1, 1, 11]
def X.keyOid : List UInt8 := [42, 134, 72, 134, 247, 13, 1, 1, 1]
theorem sign_oid {b : List UInt8} {o : List Nat} (ho : Der.oid b = some o) : o = [1, 2, 840, 113549, 1, 1, 11] ↔ b = X.signOid := by
  constructor
  · rintro rfl
    rw [← Der.oid_put ho]
    exact Der.oid_put oid_alg
  · rintro rfl
    have h2 : Der.oid X.signOid = some [1, 2, 840, 113549, 1, 1, 11] := oid_alg
    rw [h2] at ho
    injection ho with ho
    exact ho.symm
theorem key_oid {b : List UInt8} {o : List Nat} (ho : Der.oid b = some o) : o = [1, 2, 840, 113549, 1, 1, 1] ↔ b = X.keyOid := by
  constructor
  · rintro rfl
    rw [← Der.oid_put ho]
    exact Der.oid_put oid_key
  · rintro rfl
    have h2 : Der.oid X.keyOid = some [1, 2, 840, 113549, 1, 1, 1] := oid_key
    rw [h2] at ho
    injection ho with ho
    exact ho.symm
/-- Whether a method's bytes are those of the one that is taken. -/
theorem signs_iff {b : List UInt8} (h : b.length ≤ 300) : ((E.algo b).2.2 == Ref.signAlg) = (b == X.signOid) := by
  rw [Bool.eq_iff_iff, beq_iff_eq, beq_iff_eq]
  constructor
  · intro e
    rw [← alg_raw] at e
    have hw := algo_wf b h
    have h1 := elem_wf hw.1 []
    have h2 := elem_wf (x := E.alg) (El.mk_wf (by decide) (by decide)) []
    rw [List.append_nil] at h1 h2
    rw [e, h2] at h1
    simp only [Option.some.injEq, Prod.mk.injEq] at h1
    have h3 : Der.all (raws [El.mk 6 b, El.mk 5 []]) = some [El.mk 6 b, El.mk 5 []] := all_mk hw.2.2.1
    have h4 : (E.algo b).2.1 = raws [El.mk 6 b, El.mk 5 []] := rfl
    rw [← h4, ← h1.2.1] at h3
    have h5 : Der.all E.alg.2.1 = some [El.mk 6 X.signOid, El.mk 5 []] := by decide +kernel
    rw [h5] at h3
    simp only [Option.some.injEq, List.cons.injEq] at h3
    exact (congrArg (fun x : El => x.2.1) h3.1).symm
  · rintro rfl
    decide +kernel
theorem method_sign {b : List UInt8} (hb : Purp b) : Cert.method 11 (E.algo b) = if b = X.signOid then some () else none := by
  obtain ⟨hl, o, ho⟩ := hb
  rw [algo_method 11 ho hl]
  by_cases h : b = X.signOid
  · rw [if_pos h, if_pos ((sign_oid ho).2 h)]
  · rw [if_neg h, if_neg (fun e => h ((sign_oid ho).1 e))]
theorem method_key {b : List UInt8} (hb : Purp b) : Cert.method 1 (E.algo b) = if b = X.keyOid then some () else none := by
  obtain ⟨hl, o, ho⟩ := hb
  rw [algo_method 1 ho hl]
  by_cases h : b = X.keyOid
  · rw [if_pos h, if_pos ((key_oid ho).2 h)]
  · rw [if_neg h, if_neg (fun e => h ((key_oid ho).1 e))]
theorem put2_parse (k : Kase) (hp : k.path < 256) {b : List UInt8} (hb : Purp b) :
    Cert.parse (Ref.wr (Ref.seq ((k.els.map (·.2.2)).set 2 (Ref.seq [Der.write 6 b, [5, 0]]))) (k.sig.take 100)) = if b = X.signOid then .yes (k.withFl (El.mk 48 (raws (k.els.set 2 (E.algo b)))).2.2 Fl.bare) (k.sig.take 100) else .no 9 := by
  have hw := algo_wf b hb.1
  obtain ⟨h1, h2⟩ := put_parse k hp 2 (E.algo b) hw.1 hw.2.2.2.1 (by have := (algo_len b hb.1).2; omega)
  rw [algo_raw] at h1
  rw [h1]
  have hs := kase_std k
  have hq : k.els.set 2 (E.algo b) = [E.version, El.mk 2 k.serial, E.algo b, E.name (k.iss.take 200), E.validity k.start k.stop, E.name (k.sub.take 200), E.key k.nn (k.e % 8589934592)] := rfl
  have h2' := h2.trans (congrArg some hq)
  have hm := method_sign hb
  by_cases h : b = X.signOid
  · rw [if_pos h] at hm ⊢
    have h9 := sg_std (f := Fl.bare) (M := []) version_parts (by decide +kernel) (number_mk hs.ser) (by simp) (by show k.serial.length ≤ 20; exact hs.few) hm (by rfl) (validity_parts k.start k.stop) (by rfl) (general_mk hs.r1) (general_mk hs.r2) hs.less hs.key h2'
    rw [told8_none rfl] at h9
    rw [h9]
    have e1 : (E.name (k.iss.take 200)).2.2 = Ref.name (k.iss.take 200) := name_raw _
    have e2 : (E.name (k.sub.take 200)).2.2 = Ref.name (k.sub.take 200) := name_raw _
    show Cert.Ans.yes _ _ = Cert.Ans.yes _ _
    unfold Kase.withFl
    rw [← e1, ← e2]
    rfl
  · rw [if_neg h] at hm ⊢
    have : Cert.signed Fl.bare (El.mk 48 (raws (k.els.set 2 (E.algo b)))) = none := by
      unfold Cert.signed
      rw [h2']
      simp only [Option.bind_some, Sg.a, Sg.b, Sg.c, Sg.d, List.getD_cons_zero, List.getD_cons_succ]
      rw [version_parts]
      simp only [Option.bind_some, List.getD_cons_zero]
      rw [show Cert.must ((El.mk 2 [2]).2.2 == [2, 1, 2]) = some () by decide +kernel]
      simp only [Option.bind_some]
      rw [number_mk hs.ser]
      simp only [Option.bind_some]
      rw [must_t (by simp only [Bool.and_eq_true, decide_eq_true_eq]; exact ⟨by simp, hs.few⟩)]
      simp only [Option.bind_some]
      rw [hm]
      rfl
    rw [this]
theorem outer_parse (k : Kase) (hp : k.path < 256) {b : List UInt8} (hb : Purp b) :
    ∃ s, Cert.parse (Ref.seq [Ref.seq (k.els.map (·.2.2)), Ref.seq [Der.write 6 b, [5, 0]], Der.write 3 [0]]) = if b = X.signOid then .yes s [] else .no 9 := by
  have hw := algo_wf b hb.1
  have hal := algo_len b hb.1
  have hls := els_few k
  obtain ⟨h1, h2, h3⟩ := kase_signed k.plain hp (by show (0 : Nat) < 256; omega)
  rw [plain_T] at h1 h2 h3
  have a1 := write_lt 48 (raws k.els) 1741 hls (by omega)
  have a2 := write_lt 3 [0] 1 (by simp) (by omega)
  have hT : (El.mk 48 (raws k.els)).2.2 = Ref.seq (k.els.map (·.2.2)) := rfl
  have hr : Ref.seq [Ref.seq (k.els.map (·.2.2)), Ref.seq [Der.write 6 b, [5, 0]], Der.write 3 [0]] = (El.mk 48 (raws [El.mk 48 (raws k.els), E.algo b, El.mk 3 (0 :: [])])).2.2 := by
    rw [← algo_raw, ← hT, mk_raw]
    unfold Ref.seq
    rw [raws_cons, raws_cons, raws_cons, raws_nil]
    rfl
  have hlx : (raws [El.mk 48 (raws k.els), E.algo b, El.mk 3 (0 :: [])]).length ≤ 2100 := by
    rw [raws_cons, raws_cons, raws_cons, raws_nil, List.append_nil, List.length_append, List.length_append, mk_raw, mk_raw]
    omega
  have a3 := write_lt 48 _ 2100 hlx (by omega)
  have hall : ∀ y ∈ [El.mk 48 (raws k.els), E.algo b, El.mk 3 (0 :: [])], El.wf y ∧ Der.thr 14 y.1 y.2.1 = 0 := fun y hy => by
    simp only [List.mem_cons, List.not_mem_nil, or_false] at hy
    rcases hy with rfl | rfl | rfl
    · exact ⟨h2, h3⟩
    · exact ⟨hw.1, hw.2.2.2.2⟩
    · exact ⟨El.mk_wf (by decide) (by decide), thr_leaf _ rfl⟩
  have hwx : El.wf (El.mk 48 (raws [El.mk 48 (raws k.els), E.algo b, El.mk 3 (0 :: [])])) := El.mk_wf (by decide) (by omega)
  refine ⟨k.plain.sg, ?_⟩
  rw [hr]
  unfold Cert.parse
  rw [if_neg (by rw [mk_raw]; omega)]
  have hck : Der.check (El.mk 48 (raws [El.mk 48 (raws k.els), E.algo b, El.mk 3 (0 :: [])])).2.2 = 0 := by
    rw [check_mk hwx]
    exact thr_cons (k := 14) (fun y hy => (hall y hy).1) (fun y hy => (hall y hy).2)
  rw [hck, if_neg (by decide)]
  have hm := method_sign hb
  unfold Cert.read
  rw [only_mk hwx]
  simp only [Option.bind_some]
  rw [parts_mk (L := [El.mk 48 (raws k.els), E.algo b, El.mk 3 (0 :: [])]) (by rfl) rfl (fun y hy => (hall y hy).1) (by simp) (by simp)]
  simp only [Option.bind_some, List.getD_cons_zero, List.getD_cons_succ]
  rw [show Cert.signed ⟨false, -1, -1, true⟩ (El.mk 48 (raws k.els)) = some k.plain.sg from h1]
  simp only [Option.bind_some]
  rw [hm]
  by_cases h : b = X.signOid
  · rw [if_pos h, if_pos h]
    simp only [Option.bind_some]
    rw [whole_mk]
    rfl
  · rw [if_neg h, if_neg h]
    rfl
/-- A key of a kind. -/
def E.small : El := El.mk 48 (raws [El.mk 2 [5], El.mk 2 [3]])
def E.kind (b : List UInt8) : El := El.mk 48 (raws [E.algo b, El.mk 3 (0 :: E.small.2.2)])
def X.kind (b : List UInt8) : List UInt8 := Ref.seq [Ref.seq [Der.write 6 b, [5, 0]], Der.write 3 ([0] ++ Ref.seq [[2, 1, 5], [2, 1, 3]])]
theorem kind_raw (b : List UInt8) : (E.kind b).2.2 = X.kind b := by
  have h1 : E.small.2.2 = Ref.seq [[2, 1, 5], [2, 1, 3]] := by decide +kernel
  unfold E.kind X.kind
  rw [← algo_raw, mk_raw, raws_cons, raws_cons, raws_nil, mk_raw, h1]
  rfl
theorem kind_key {b : List UInt8} (hb : Purp b) : Cert.key (E.kind b) = if b = X.keyOid then some ([5], 3) else none := by
  have hw := algo_wf b hb.1
  by_cases h : b = X.keyOid
  · rw [if_pos h]
    subst h
    decide +kernel
  · rw [if_neg h]
    have hm := method_key hb
    rw [if_neg h] at hm
    unfold Cert.key
    rw [parts_mk (L := [E.algo b, El.mk 3 (0 :: E.small.2.2)]) (by rfl) rfl (fun y hy => by
      simp only [List.mem_cons, List.not_mem_nil, or_false] at hy
      rcases hy with rfl | rfl
      · exact hw.1
      · exact El.mk_wf (by decide) (by decide +kernel)) (by simp) (by simp)]
    simp only [Option.bind_some, List.getD_cons_zero]
    rw [hm]
    rfl
theorem kind_wf {b : List UInt8} (h : b.length ≤ 300) : El.wf (E.kind b) ∧ Der.thr 13 (E.kind b).1 (E.kind b).2.1 = 0 ∧ (E.kind b).2.2.length ≤ 400 := by
  have hw := algo_wf b h
  have hal := algo_len b h
  have hs : (El.mk 3 (0 :: E.small.2.2)).2.2.length = 11 := by decide +kernel
  have hl : (raws [E.algo b, El.mk 3 (0 :: E.small.2.2)]).length ≤ 350 := by
    rw [raws_cons, raws_cons, raws_nil, List.append_nil, List.length_append]
    omega
  have a1 := write_lt 48 _ 350 hl (by omega)
  refine ⟨El.mk_wf (by decide) (by omega), thr_cons (k := 12) (fun y hy => ?_) (fun y hy => ?_), by unfold E.kind; rw [mk_raw]; omega⟩
  · simp only [List.mem_cons, List.not_mem_nil, or_false] at hy
    rcases hy with rfl | rfl
    · exact hw.1
    · exact El.mk_wf (by decide) (by decide +kernel)
  · simp only [List.mem_cons, List.not_mem_nil, or_false] at hy
    rcases hy with rfl | rfl
    · exact hw.2.1
    · exact thr_leaf _ rfl
theorem put6_parse (k : Kase) (hp : k.path < 256) {b : List UInt8} (hb : Purp b) :
    (b = X.keyOid ∧ ∃ s, Cert.parse (Ref.wr (Ref.seq ((k.els.map (·.2.2)).set 6 (X.kind b))) (k.sig.take 100)) = .yes s (k.sig.take 100) ∧ s.n = [5] ∧ s.e = 3) ∨
    (b ≠ X.keyOid ∧ Cert.parse (Ref.wr (Ref.seq ((k.els.map (·.2.2)).set 6 (X.kind b))) (k.sig.take 100)) = .no 9) := by
  have hw := kind_wf hb.1
  obtain ⟨h1, h2⟩ := put_parse k hp 6 (E.kind b) hw.1 hw.2.1 (by omega)
  rw [kind_raw] at h1
  rw [h1]
  have hs := kase_std k
  have hq : k.els.set 6 (E.kind b) = [E.version, El.mk 2 k.serial, E.alg, E.name (k.iss.take 200), E.validity k.start k.stop, E.name (k.sub.take 200), E.kind b] := rfl
  have h2' := h2.trans (congrArg some hq)
  have hm := kind_key hb
  by_cases h : b = X.keyOid
  · left
    rw [if_pos h] at hm
    refine ⟨h, ?_⟩
    have h9 := sg_std (f := Fl.bare) (M := []) version_parts (by decide +kernel) (number_mk hs.ser) (by simp) (by show k.serial.length ≤ 20; exact hs.few) alg_method (by rfl) (validity_parts k.start k.stop) (by rfl) (general_mk hs.r1) (general_mk hs.r2) hs.less hm h2'
    rw [told8_none rfl] at h9
    rw [h9]
    exact ⟨_, rfl, rfl, rfl⟩
  · right
    rw [if_neg h] at hm
    refine ⟨h, ?_⟩
    have : Cert.signed Fl.bare (El.mk 48 (raws (k.els.set 6 (E.kind b)))) = none := by
      have m1 : Cert.must ((El.mk 2 [2]).2.2 == [2, 1, 2]) = some () := by decide +kernel
      have m2 : Cert.must (decide (0 < (1 :: k.ser.take 18).length) && decide ((El.mk 2 k.serial).2.1.length ≤ 20)) = some () := must_t (by simp only [Bool.and_eq_true, decide_eq_true_eq]; exact ⟨by simp, hs.few⟩)
      have m3 : Cert.must (!Stamp.less k.stop k.start) = some () := must_t (by rw [hs.less]; rfl)
      unfold Cert.signed
      rw [h2']
      simp only [Option.bind_some, Sg.a, Sg.b, Sg.c, Sg.d, Sg.e_, Sg.f, Sg.g, Sg.h, Sg.i, Sg.j, List.getD_cons_zero, List.getD_cons_succ]
      have ma : Cert.moment (E.moment k.start) = some k.start := general_mk hs.r1
      have mb : Cert.moment (E.moment k.stop) = some k.stop := general_mk hs.r2
      have q1 : (((E.name (k.iss.take 200)).1.toNat : Nat) : Int) = 48 := rfl
      have q2 : (((E.name (k.sub.take 200)).1.toNat : Nat) : Int) = 48 := rfl
      simp only [version_parts, Option.bind_some, List.getD_cons_zero, List.getD_cons_succ, m1, number_mk hs.ser, m2, alg_method, body_mk q1, body_mk q2, validity_parts, ma, mb, m3, hm, Option.bind_none]
    rw [this]
/-- What the law takes as an identifier. -/
def X.oidOf (zs : List Nat) : List UInt8 := if (Der.putOid zs).length = 0 ∨ 300 < (Der.putOid zs).length then [42, 3] else Der.putOid zs
theorem oidOf_purp (zs : List Nat) (h : ∀ z ∈ zs, z < 18446744073709551616) : Purp (X.oidOf zs) := by
  unfold X.oidOf
  split
  · exact ⟨by simp, [1, 2, 3], by decide +kernel⟩
  · rename_i hno
    refine ⟨by omega, ?_⟩
    rcases oid_putOid zs h with h0 | h0
    · rw [h0] at hno; simp at hno
    · exact ⟨zs, h0⟩
end Go.Proofs.Ytmnekhliblkibaa
