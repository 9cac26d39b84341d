/- A case's certificate with extensions: how it is read. Plain Lean. -/
import Derived.Test.YtmnekhliblkibaaPlain9
import Derived.Test.YtmnekhliblkibaaWith
namespace Go.Proofs.Ytmnekhliblkibaa
open Go.RowKit
set_option maxRecDepth 100000
set_option linter.unusedVariables false
set_option linter.unusedSimpArgs false

/-- The flags that extensions tell. -/
def Cert.flags (xs : List El) : Option Fl := (Cert.exts Fl.bare xs).bind fun p => (Cert.must (distinct p.2)).bind fun _ => some p.1
def Kase.withFl (k : Kase) (t : List UInt8) (f : Fl) : Sg := ⟨t, Ref.name (k.iss.take 200), Ref.name (k.sub.take 200), k.serial, k.start, k.stop, k.nn, k.e % 8589934592, f⟩
theorem tail_raw (xs : List El) (hx : xs ≠ []) : X.tail (xs.map (·.2.2)) = (E.extra xs).map (·.2.2) := by
  unfold X.tail E.extra
  rw [if_neg (by simpa using hx), if_neg hx]
  rfl
theorem with_parse (k : Kase) (hp : k.path < 256) (xs : List El) (hx : xs ≠ []) (hw : ∀ y ∈ xs, El.wf y) (hd : ∀ y ∈ xs, Der.thr 11 y.1 y.2.1 = 0) (hl : (raws xs).length ≤ 1900) (hn : xs.length ≤ 8192) :
    ∃ t, Cert.parse (Ref.wr (Ref.seq (k.els.map (·.2.2) ++ X.tail (xs.map (·.2.2)))) (k.sig.take 100)) = match Cert.flags xs with
      | none => .no 9
      | some f => .yes (k.withFl t f) (k.sig.take 100) := by
  have hwe := els_wf k hp
  have hde := els_deep k hp
  have a1 := write_lt 48 (raws xs) 1900 hl (by omega)
  have a2 := write_lt 163 (El.mk 48 (raws xs)).2.2 1906 (by rw [mk_raw]; exact a1) (by omega)
  have hext : E.extra xs = [El.mk 163 (El.mk 48 (raws xs)).2.2] := by unfold E.extra; rw [if_neg hx]
  have hwx : ∀ y ∈ E.extra xs, El.wf y := fun y hy => by
    rw [hext] at hy
    rw [List.mem_singleton.1 hy]
    exact El.mk_wf (by decide) (by rw [mk_raw]; omega)
  have hlx : (raws (E.extra xs)).length ≤ 1912 := by
    rw [hext, raws_cons, raws_nil, List.append_nil, mk_raw]
    exact a2
  have hall : ∀ y ∈ k.els ++ E.extra xs, El.wf y := fun y hy => by
    rcases List.mem_append.1 hy with hy | hy
    · exact hwe.1 y hy
    · exact hwx y hy
  have hdd : ∀ y ∈ k.els ++ E.extra xs, Der.thr 13 y.1 y.2.1 = 0 := fun y hy => by
    rcases List.mem_append.1 hy with hy | hy
    · exact hde y hy
    · exact extra_deep hw hd hwx y hy
  have hlen : (raws (k.els ++ E.extra xs)).length ≤ 6000 := by rw [raws_append, List.length_append]; have := hwe.2; omega
  have h := seq_parse (k.els ++ E.extra xs) (k.sig.take 100) hall hdd hlen (by rw [List.length_take]; omega)
  rw [List.map_append, ← tail_raw xs hx] at h
  refine ⟨(El.mk 48 (raws (k.els ++ E.extra xs))).2.2, ?_⟩
  rw [h.2]
  have hs := kase_std k
  have hpp : Cert.parts 48 7 8 (El.mk 48 (raws (k.els ++ E.extra xs))) = some (k.els ++ E.extra xs) :=
    parts_mk (by rfl) rfl hall (by rw [List.length_append, els_len, hext]; simp) (by rw [List.length_append, els_len, hext]; simp)
  have hq : k.els ++ E.extra xs = [E.version, El.mk 2 k.serial, E.alg, E.name (k.iss.take 200), E.validity k.start k.stop, E.name (k.sub.take 200), E.key k.nn (k.e % 8589934592), El.mk 163 (El.mk 48 (raws xs)).2.2] := by rw [hext]; rfl
  have hpp2 := hpp.trans (congrArg some hq)
  have h9 := sg_std (f := Fl.bare) (M := [El.mk 163 (El.mk 48 (raws xs)).2.2]) version_parts (by decide +kernel) (number_mk hs.ser) (by simp) (by show k.serial.length ≤ 20; exact hs.few) alg_method (by rfl) (validity_parts k.start k.stop) (by rfl) (general_mk hs.r1) (general_mk hs.r2) hs.less hs.key hpp2
  rw [h9]
  have h1 : 0 < xs.length := List.length_pos_iff.2 hx
  have hw2 : El.wf (El.mk 48 (raws xs)) := El.mk_wf (by decide) (by omega)
  unfold Cert.told8
  rw [if_neg (by simp)]
  simp only [List.getD_cons_zero, List.getD_cons_succ]
  rw [parts_mk (L := [El.mk 48 (raws xs)]) (by rfl) (by rw [raws_cons, raws_nil, List.append_nil]; rfl) (fun y hy => by rw [List.mem_singleton.1 hy]; exact hw2) (by simp) (by simp)]
  simp only [Option.bind_some, List.getD_cons_zero]
  rw [parts_mk (x := El.mk 48 (raws xs)) (L := xs) (by rfl) rfl hw (by omega) (by omega)]
  simp only [Option.bind_some]
  unfold Cert.flags
  cases hxs : Cert.exts Fl.bare xs with
  | none => rfl
  | some p =>
    simp only [Option.bind_some]
    cases hdp : distinct p.2 with
    | false => rfl
    | true =>
      have e1 : (E.name (k.iss.take 200)).2.2 = Ref.name (k.iss.take 200) := name_raw _
      have e2 : (E.name (k.sub.take 200)).2.2 = Ref.name (k.sub.take 200) := name_raw _
      show Cert.Ans.yes _ _ = Cert.Ans.yes _ _
      unfold Kase.withFl
      rw [← e1, ← e2]
      rfl
/-- An extension of the law's, written. -/
def E.extq (nm : List UInt8) (q : Bool) (body : List UInt8) : El := El.mk 48 (raws ([El.mk 6 nm] ++ (if q then [E.yes] else []) ++ [El.mk 4 body]))
theorem extq_raw (nm : List UInt8) (q : Bool) (body : List UInt8) : (E.extq nm q body).2.2 = X.ext nm q body := by
  have hy : E.yes.2.2 = [1, 1, 255] := by decide +kernel
  unfold E.extq X.ext Ref.seq
  rw [mk_raw]
  cases q
  · rfl
  · simp only [if_true, raws, List.map_cons, List.map_nil, List.map_append, hy, mk_raw]
theorem extq_mk {f : Fl} {nm body : List UInt8} {q : Bool} {o : List Nat} (ho : Der.oid nm = some o) (hn : nm.length ≤ 300) (hb : body.length ≤ 1200) :
    Cert.extension f (E.extq nm q body) = ((Cert.told f o ([El.mk 6 nm] ++ (if q then [E.yes] else []) ++ [El.mk 4 body]) (if q then 2 else 1)).bind fun g => some (g, nm)) ∧ El.wf (E.extq nm q body) ∧ Der.thr 11 (E.extq nm q body).1 (E.extq nm q body).2.1 = 0 ∧ (E.extq nm q body).2.2.length ≤ 1600 := by
  have a1 := write_lt 6 nm 300 hn (by omega)
  have a2 := write_lt 4 body 1200 hb (by omega)
  have hy : E.yes.2.2.length = 3 := by decide +kernel
  have hl : (raws ([El.mk 6 nm] ++ (if q then [E.yes] else []) ++ [El.mk 4 body])).length ≤ 1520 := by
    rw [raws_append, raws_append, List.length_append, List.length_append, raws_cons, raws_cons, raws_nil, List.append_nil, List.append_nil, mk_raw, mk_raw]
    cases q
    · simp only [Bool.false_eq_true, if_false, raws_nil, List.length_nil]; omega
    · simp only [if_true, raws_cons, raws_nil, List.append_nil, hy]; omega
  have a3 := write_lt 48 _ 1520 hl (by omega)
  have hw : ∀ y ∈ [El.mk 6 nm] ++ (if q then [E.yes] else []) ++ [El.mk 4 body], El.wf y ∧ Der.thr 10 y.1 y.2.1 = 0 := fun y hy' => by
    rcases List.mem_append.1 hy' with h | h
    · rcases List.mem_append.1 h with h | h
      · rw [List.mem_singleton.1 h]
        exact ⟨El.mk_wf (by decide) (by omega), thr_leaf _ rfl⟩
      · cases q
        · simp at h
        · simp only [if_true, List.mem_singleton] at h
          rw [h]
          exact ⟨El.mk_wf (by decide) (by decide), thr_leaf _ rfl⟩
    · rw [List.mem_singleton.1 h]
      exact ⟨El.mk_wf (by decide) (by omega), thr_leaf _ rfl⟩
  refine ⟨?_, El.mk_wf (by decide) (by omega), thr_cons (k := 10) (fun y h => (hw y h).1) (fun y h => (hw y h).2), by unfold E.extq; rw [mk_raw]; omega⟩
  unfold Cert.extension
  rw [parts_mk (L := [El.mk 6 nm] ++ (if q then [E.yes] else []) ++ [El.mk 4 body]) (by rfl) rfl (fun y h => (hw y h).1) (by cases q <;> simp) (by cases q <;> simp)]
  have ha : Cert.arcs (El.mk 6 nm) = some o := by
    unfold Cert.arcs
    rw [body_mk (by rfl)]
    exact ho
  simp only [Option.bind_some]
  have hg : ([El.mk 6 nm] ++ (if q then [E.yes] else []) ++ [El.mk 4 body]).getD 0 El.none_ = El.mk 6 nm := by cases q <;> rfl
  rw [hg, ha]
  simp only [Option.bind_some]
  have hj : ([El.mk 6 nm] ++ (if q then [E.yes] else []) ++ [El.mk 4 body]).length - 1 = if q then 2 else 1 := by cases q <;> rfl
  rw [hj]
  have hlo : Cert.lastOk ([El.mk 6 nm] ++ (if q then [E.yes] else []) ++ [El.mk 4 body]) (if q then 2 else 1) = true := by
    cases q
    · simp [Cert.lastOk, El.mk]
    · have hyy := yes_yes
      unfold Cert.lastOk
      simp only [if_true]
      show (_ && (_ || Cert.yes E.yes)) = true
      rw [hyy]
      simp [El.mk]
  rw [hlo, must_t rfl]
  rfl
theorem extq_last (nm : List UInt8) (q : Bool) (body : List UInt8) : (([El.mk 6 nm] ++ (if q then [E.yes] else []) ++ [El.mk 4 body]).getD (if q then 2 else 1) El.none_).2.1 = body := by cases q <;> rfl
end Go.Proofs.Ytmnekhliblkibaa
