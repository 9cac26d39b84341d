/- Purposes: how a certificate with an extension that tells them is read. Plain Lean. -/
import Derived.Test.YtmnekhliblkibaaPlainS
namespace Go.Proofs.Ytmnekhliblkibaa
open Go.RowKit
set_option maxRecDepth 100000
set_option linter.unusedVariables false
set_option linter.unusedSimpArgs false

theorem els_few (k : Kase) : (raws k.els).length ≤ 1741 := by
  have n1 := name_len (k.iss.take 200) (by rw [List.length_take]; omega)
  have n2 := name_len (k.sub.take 200) (by rw [List.length_take]; omega)
  have hs : k.serial.length ≤ 20 := by rw [kase_serial, List.length_cons, List.length_take]; omega
  have a1 := write_lt 2 k.serial 20 hs (by omega)
  have hv : E.version.2.2.length = 5 := by decide +kernel
  have ha : E.alg.2.2.length = 15 := by decide +kernel
  have hka : E.keyAlg.2.2.length = 15 := by decide +kernel
  have hm : ∀ t, (E.moment t).2.2.length ≤ 21 := fun t => write_lt 24 _ 15 (by simp [Ref.nums, Ref.two]) (by omega)
  have hval : (E.validity k.start k.stop).2.2.length ≤ 48 := by
    have h1 := hm k.start
    have h2 := hm k.stop
    unfold E.validity
    rw [mk_raw]
    exact write_lt 48 _ 42 (by rw [raws_cons, raws_cons, raws_nil, List.append_nil, List.length_append]; omega) (by omega)
  have hkey : (E.key k.nn (k.e % 8589934592)).2.2.length ≤ 1000 := by
    have p1 := putInt_len k.nn
    have p2 := putInt_len (Ref.five (k.e % 8589934592))
    have p3 : (Ref.five (k.e % 8589934592)).length = 5 := rfl
    have hn := kase_nlen k
    have b1 := write_lt 2 (Der.putInt k.nn) 601 (by omega) (by omega)
    have b2 := write_lt 2 (Der.putInt (Ref.five (k.e % 8589934592))) 6 (by omega) (by omega)
    have b3 := write_lt 48 (raws [El.mk 2 (Der.putInt k.nn), El.mk 2 (Der.putInt (Ref.five (k.e % 8589934592)))]) 619 (by rw [raws_cons, raws_cons, raws_nil, List.append_nil, List.length_append, mk_raw, mk_raw]; omega) (by omega)
    have b4 := write_lt 3 (0 :: (E.rsa k.nn (k.e % 8589934592)).2.2) 626 (by unfold E.rsa; rw [List.length_cons, mk_raw]; omega) (by omega)
    have b5 := write_lt 48 (raws [E.keyAlg, El.mk 3 (0 :: (E.rsa k.nn (k.e % 8589934592)).2.2)]) 647 (by rw [raws_cons, raws_cons, raws_nil, List.append_nil, List.length_append, mk_raw]; omega) (by omega)
    unfold E.key
    rw [mk_raw]
    omega
  unfold Kase.els E.seven
  rw [raws_cons, raws_cons, raws_cons, raws_cons, raws_cons, raws_cons, raws_cons, raws_nil]
  simp only [List.length_append, List.length_nil, name_raw, mk_raw]
  omega
/-- Any elements as a signed part; more of them, a shorter signature. -/
theorem seq_parse7 (L : List El) (g : List UInt8) (hw : ∀ y ∈ L, El.wf y) (hd : ∀ y ∈ L, Der.thr 13 y.1 y.2.1 = 0) (hl : (raws L).length ≤ 7910) (hg : g.length ≤ 100) :
    El.wf (El.mk 48 (raws L)) ∧ Cert.parse (Ref.wr (Ref.seq (L.map (·.2.2))) g) = match Cert.signed Fl.bare (El.mk 48 (raws L)) with
      | none => .no 9
      | some s => .yes s g := by
  have hT : El.wf (El.mk 48 (raws L)) := El.mk_wf (by decide) (by omega)
  have hr : Ref.wr (Ref.seq (L.map (·.2.2))) g = (E.cert (El.mk 48 (raws L)) g).2.2 := by
    rw [cert_raw]
    rfl
  have hlen : (E.cert (El.mk 48 (raws L)) g).2.2.length ≤ 8192 := by
    rw [cert_raw]
    unfold Ref.wr Ref.seq
    have a0 := write_lt 48 (raws L) 7910 hl (by omega)
    have a1 := write_lt 3 (0 :: g) 101 (by simp; omega) (by omega)
    have a2 : Ref.signAlg.length = 15 := rfl
    rw [mk_raw]
    have a3 := write_lt 48 [Der.write 48 (raws L), Ref.signAlg, Der.write 3 (0 :: g)].flatten 8040 (by simp only [List.flatten_cons, List.flatten_nil, List.append_nil, List.length_append]; omega) (by omega)
    omega
  refine ⟨hT, ?_⟩
  rw [hr, cert_parse hT (thr_cons (k := 13) hw hd) hlen]
  cases Cert.signed Fl.bare (El.mk 48 (raws L)) <;> rfl
theorem with_parse7 (k : Kase) (hp : k.path < 256) (xs : List El) (hx : xs ≠ []) (hw : ∀ y ∈ xs, El.wf y) (hd : ∀ y ∈ xs, Der.thr 11 y.1 y.2.1 = 0) (hl : (raws xs).length ≤ 6150) (hn : xs.length ≤ 8192) :
    ∃ t, Cert.parse (Ref.wr (Ref.seq (k.els.map (·.2.2) ++ X.tail (xs.map (·.2.2)))) (k.sig.take 100)) = match Cert.flags xs with
      | none => .no 9
      | some f => .yes (k.withFl t f) (k.sig.take 100) := by
  have hwe := els_wf k hp
  have hef := els_few k
  have hde := els_deep k hp
  have a1 := write_lt 48 (raws xs) 6150 hl (by omega)
  have a2 := write_lt 163 (El.mk 48 (raws xs)).2.2 6156 (by rw [mk_raw]; exact a1) (by omega)
  have hext : E.extra xs = [El.mk 163 (El.mk 48 (raws xs)).2.2] := by unfold E.extra; rw [if_neg hx]
  have hwx : ∀ y ∈ E.extra xs, El.wf y := fun y hy => by
    rw [hext] at hy
    rw [List.mem_singleton.1 hy]
    exact El.mk_wf (by decide) (by rw [mk_raw]; omega)
  have hlx : (raws (E.extra xs)).length ≤ 6162 := by
    rw [hext, raws_cons, raws_nil, List.append_nil, mk_raw]
    exact a2
  have hall : ∀ y ∈ k.els ++ E.extra xs, El.wf y := fun y hy => by
    rcases List.mem_append.1 hy with hy | hy
    · exact hwe.1 y hy
    · exact hwx y hy
  have hdd : ∀ y ∈ k.els ++ E.extra xs, Der.thr 13 y.1 y.2.1 = 0 := fun y hy => by
    rcases List.mem_append.1 hy with hy | hy
    · exact hde y hy
    · exact extra_deep hw hd hwx y hy
  have hlen : (raws (k.els ++ E.extra xs)).length ≤ 7910 := by rw [raws_append, List.length_append]; omega
  have h := seq_parse7 (k.els ++ E.extra xs) (k.sig.take 100) hall hdd hlen (by rw [List.length_take]; omega)
  rw [List.map_append, ← tail_raw xs hx] at h
  refine ⟨(El.mk 48 (raws (k.els ++ E.extra xs))).2.2, ?_⟩
  rw [h.2]
  have hs := kase_std k
  have hpp : Cert.parts 48 7 8 (El.mk 48 (raws (k.els ++ E.extra xs))) = some (k.els ++ E.extra xs) :=
    parts_mk (by rfl) rfl hall (by rw [List.length_append, els_len, hext]; simp) (by rw [List.length_append, els_len, hext]; simp)
  have hq : k.els ++ E.extra xs = [E.version, El.mk 2 k.serial, E.alg, E.name (k.iss.take 200), E.validity k.start k.stop, E.name (k.sub.take 200), E.key k.nn (k.e % 8589934592), El.mk 163 (El.mk 48 (raws xs)).2.2] := by rw [hext]; rfl
  have hpp2 := hpp.trans (congrArg some hq)
  have h9 := sg_std (f := Fl.bare) (M := [El.mk 163 (El.mk 48 (raws xs)).2.2]) version_parts (by decide +kernel) (number_mk hs.ser) (by simp) (by show k.serial.length ≤ 20; exact hs.few) alg_method (by rfl) (validity_parts k.start k.stop) (by rfl) (general_mk hs.r1) (general_mk hs.r2) hs.less hs.key hpp2
  rw [h9]
  have h1 : 0 < xs.length := List.length_pos_iff.2 hx
  have hw2 : El.wf (El.mk 48 (raws xs)) := El.mk_wf (by decide) (by omega)
  unfold Cert.told8
  rw [if_neg (by simp)]
  simp only [List.getD_cons_zero, List.getD_cons_succ]
  rw [parts_mk (L := [El.mk 48 (raws xs)]) (by rfl) (by rw [raws_cons, raws_nil, List.append_nil]; rfl) (fun y hy => by rw [List.mem_singleton.1 hy]; exact hw2) (by simp) (by simp)]
  simp only [Option.bind_some, List.getD_cons_zero]
  rw [parts_mk (x := El.mk 48 (raws xs)) (L := xs) (by rfl) rfl hw (by omega) (by omega)]
  simp only [Option.bind_some]
  unfold Cert.flags
  cases hxs : Cert.exts Fl.bare xs with
  | none => rfl
  | some p =>
    simp only [Option.bind_some]
    cases hdp : distinct p.2 with
    | false => rfl
    | true =>
      have e1 : (E.name (k.iss.take 200)).2.2 = Ref.name (k.iss.take 200) := name_raw _
      have e2 : (E.name (k.sub.take 200)).2.2 = Ref.name (k.sub.take 200) := name_raw _
      show Cert.Ans.yes _ _ = Cert.Ans.yes _ _
      unfold Kase.withFl
      rw [← e1, ← e2]
      rfl
/-- An extension that isn't critical, with many octets. -/
theorem ext_mk7 {f : Fl} {nm body : List UInt8} {o : List Nat} (ho : Der.oid nm = some o) (hn : nm.length = 3) (hb : body.length ≤ 6126) :
    Cert.extension f (E.extq nm false body) = ((Cert.told f o ([El.mk 6 nm] ++ [] ++ [El.mk 4 body]) 1).bind fun g => some (g, nm)) ∧ El.wf (E.extq nm false body) ∧ Der.thr 11 (E.extq nm false body).1 (E.extq nm false body).2.1 = 0 ∧ (E.extq nm false body).2.2.length ≤ 6150 := by
  have a1 := write_lt 6 nm 3 (by omega) (by omega)
  have a2 := write_lt 4 body 6126 hb (by omega)
  have hl : (raws ([El.mk 6 nm] ++ [] ++ [El.mk 4 body])).length ≤ 6141 := by
    rw [raws_append, raws_append, List.length_append, List.length_append, raws_cons, raws_cons, raws_nil, List.append_nil, List.append_nil, mk_raw, mk_raw]
    simp only [List.length_nil]
    omega
  have a3 := write_lt 48 _ 6141 hl (by omega)
  have hw : ∀ y ∈ [El.mk 6 nm] ++ [] ++ [El.mk 4 body], El.wf y ∧ Der.thr 10 y.1 y.2.1 = 0 := fun y hy' => by
    simp only [List.append_nil, List.mem_append, List.mem_singleton] at hy'
    rcases hy' with rfl | rfl
    · exact ⟨El.mk_wf (by decide) (by omega), thr_leaf _ rfl⟩
    · exact ⟨El.mk_wf (by decide) (by omega), thr_leaf _ rfl⟩
  have he : E.extq nm false body = El.mk 48 (raws ([El.mk 6 nm] ++ [] ++ [El.mk 4 body])) := rfl
  rw [he]
  refine ⟨?_, El.mk_wf (by decide) (by omega), thr_cons (k := 10) (fun y h => (hw y h).1) (fun y h => (hw y h).2), by rw [mk_raw]; omega⟩
  unfold Cert.extension
  rw [parts_mk (L := [El.mk 6 nm] ++ [] ++ [El.mk 4 body]) (by rfl) rfl (fun y h => (hw y h).1) (by simp) (by simp)]
  have ha : Cert.arcs (El.mk 6 nm) = some o := by
    unfold Cert.arcs
    rw [body_mk (by rfl)]
    exact ho
  simp only [Option.bind_some]
  have hg : ([El.mk 6 nm] ++ [] ++ [El.mk 4 body]).getD 0 El.none_ = El.mk 6 nm := rfl
  rw [hg, ha]
  simp only [Option.bind_some]
  have hj : ([El.mk 6 nm] ++ [] ++ [El.mk 4 body]).length - 1 = 1 := rfl
  rw [hj]
  have hlo : Cert.lastOk ([El.mk 6 nm] ++ [] ++ [El.mk 4 body]) 1 = true := by
    simp [Cert.lastOk, El.mk]
  rw [hlo, must_t rfl]
  rfl
def X.code8 : List UInt8 := [43, 6, 1, 5, 5, 7, 3, 3]
/-- What may stand as a purpose. -/
def Purp (b : List UInt8) : Prop := b.length ≤ 300 ∧ ∃ o, Der.oid b = some o
theorem strange_purp {b : List UInt8} (h : Strange b) : Purp b := ⟨h.1, by obtain ⟨_, o, ho, _⟩ := h; exact ⟨o, ho⟩⟩
theorem code8_purp : Purp X.code8 := ⟨by decide, [1, 3, 6, 1, 5, 5, 7, 3, 3], by decide +kernel⟩
theorem purp_code {b : List UInt8} {o : List Nat} (h : Der.oid b = some o) : (o == [1, 3, 6, 1, 5, 5, 7, 3, 3]) = (b == X.code8) := by
  rw [Bool.eq_iff_iff, beq_iff_eq, beq_iff_eq]
  constructor
  · rintro rfl
    rw [← Der.oid_put h]
    decide +kernel
  · rintro rfl
    have h2 : Der.oid X.code8 = some [1, 3, 6, 1, 5, 5, 7, 3, 3] := by decide +kernel
    rw [h2] at h
    injection h with h
    exact h.symm
theorem mean_bs : ∀ (bs : List (List UInt8)) (q : Bool), (∀ b ∈ bs, Purp b) → Cert.mean q (bs.map (El.mk 6)) = some (q || bs.any (· == X.code8))
  | [], q, _ => by simp [Cert.mean]
  | b :: bs, q, h => by
    obtain ⟨_, o, ho⟩ := h b (by simp)
    have ha : Cert.arcs (El.mk 6 b) = some o := by
      unfold Cert.arcs
      rw [body_mk (by rfl)]
      exact ho
    rw [List.map_cons, Cert.mean, ha, Option.bind_some, mean_bs bs _ (fun y hy => h y (by simp [hy])), purp_code ho, List.any_cons, Bool.or_assoc]
theorem rows_len : ∀ (bs : List (List UInt8)), (∀ b ∈ bs, b.length ≤ 300) → ((bs.map (Der.write 6)).flatten).length ≤ 306 * bs.length
  | [], _ => by simp
  | b :: bs, h => by
    have h1 := write_lt 6 b 300 (h b (by simp)) (by omega)
    have h2 := rows_len bs fun y hy => h y (by simp [hy])
    rw [List.map_cons, List.flatten_cons, List.length_append, List.length_cons]
    omega
theorem purposes_parse (k : Kase) (hp : k.path < 256) (bs : List (List UInt8)) (hb : ∀ b ∈ bs, Purp b) (hn : bs.length ≤ 20) :
    (bs = [] ∧ Cert.parse (Ref.wr (Ref.seq (k.els.map (·.2.2) ++ X.tail [X.ext [85, 29, 37] false (Ref.seq (bs.map (Der.write 6)))])) (k.sig.take 100)) = .no 9) ∨
    (bs ≠ [] ∧ ∃ s, Cert.parse (Ref.wr (Ref.seq (k.els.map (·.2.2) ++ X.tail [X.ext [85, 29, 37] false (Ref.seq (bs.map (Der.write 6)))])) (k.sig.take 100)) = .yes s (k.sig.take 100) ∧ s.fl.code = bs.any (· == X.code8)) := by
  have hrl := rows_len bs fun b h => (hb b h).1
  have hraw : raws (bs.map (El.mk 6)) = (bs.map (Der.write 6)).flatten := by
    unfold raws
    rw [List.map_map]
    rfl
  have hsl := write_lt 48 (bs.map (Der.write 6)).flatten 6120 (by omega) (by omega)
  have hx := ext_mk7 (f := Fl.bare) (body := Ref.seq (bs.map (Der.write 6))) oid_purposes rfl hsl
  obtain ⟨t, ht⟩ := with_parse7 k hp [E.extq [85, 29, 37] false (Ref.seq (bs.map (Der.write 6)))] (by simp) (fun y hy => by rw [List.mem_singleton.1 hy]; exact hx.2.1) (fun y hy => by rw [List.mem_singleton.1 hy]; exact hx.2.2.1) (by rw [raws_cons, raws_nil, List.append_nil]; exact hx.2.2.2) (by simp)
  rw [show ([E.extq [85, 29, 37] false (Ref.seq (bs.map (Der.write 6)))] : List El).map (·.2.2) = [(E.extq [85, 29, 37] false (Ref.seq (bs.map (Der.write 6)))).2.2] from rfl, extq_raw] at ht
  have hwp : ∀ y ∈ bs.map (El.mk 6), El.wf y := fun y hy => by
    obtain ⟨b, hbm, rfl⟩ := List.mem_map.1 hy
    exact El.mk_wf (by decide) (by have := (hb b hbm).1; omega)
  have hto : Cert.extension Fl.bare (E.extq [85, 29, 37] false (Ref.seq (bs.map (Der.write 6)))) = if bs = [] then none else some ({Fl.bare with code := bs.any (· == X.code8)}, [85, 29, 37]) := by
    rw [hx.1]
    unfold Cert.told
    rw [if_neg (by decide), if_neg (by decide), if_pos rfl]
    have he : (([El.mk 6 [85, 29, 37]] ++ [] ++ [El.mk 4 (Ref.seq (bs.map (Der.write 6)))]).getD 1 El.none_).2.1 = (El.mk 48 (raws (bs.map (El.mk 6)))).2.2 := by
      rw [mk_raw, hraw]
      rfl
    rw [he, only_mk (El.mk_wf (by decide) (by rw [hraw]; omega))]
    simp only [Option.bind_some]
    unfold Cert.purposes
    rw [body_mk (by rfl)]
    simp only [Option.bind_some]
    rw [show (El.mk 48 (raws (bs.map (El.mk 6)))).2.1 = raws (bs.map (El.mk 6)) from rfl, all_mk hwp]
    simp only [Option.bind_some]
    cases bs with
    | nil => rfl
    | cons b bs =>
      rw [must_t (by simp only [List.map_cons, List.length_cons, decide_eq_true_eq]; omega), mean_bs _ _ hb, if_neg (by simp)]
      rfl
  by_cases hz : bs = []
  · left
    rw [if_pos hz] at hto
    refine ⟨hz, ?_⟩
    rw [ht]
    have hf : Cert.flags [E.extq [85, 29, 37] false (Ref.seq (bs.map (Der.write 6)))] = none := by
      unfold Cert.flags
      rw [exts_none hto]
      rfl
    rw [hf]
  · right
    rw [if_neg hz] at hto
    refine ⟨hz, k.withFl t {Fl.bare with code := bs.any (· == X.code8)}, ?_⟩
    rw [ht]
    have hf : Cert.flags [E.extq [85, 29, 37] false (Ref.seq (bs.map (Der.write 6)))] = some {Fl.bare with code := bs.any (· == X.code8)} := by
      unfold Cert.flags
      rw [exts_cons hto]
      rfl
    rw [hf]
    exact ⟨rfl, rfl⟩
end Go.Proofs.Ytmnekhliblkibaa
