/- Strange extensions: what identifiers are written as, and how a certificate with such ones is read. Plain Lean. -/
import Derived.Test.YtmnekhliblkibaaPlainW
import Derived.Test.YtmnekhliblkibaaRefPut
namespace Go.Proofs.Ytmnekhliblkibaa
open Go.RowKit
set_option maxRecDepth 100000
set_option linter.unusedVariables false
set_option linter.unusedSimpArgs false

theorem oid_pend (arcs : List Nat) (r : List UInt8) (n : Nat) : n < 18446744073709551616 → Der.oidFrom ⟨arcs, 0, false⟩ (Der.pend n ++ r) = Der.oidFrom ⟨arcs, n, decide (n ≠ 0)⟩ r := by
  induction n using Nat.strongRecOn generalizing r with
  | ind n ih =>
    intro hn
    rcases Nat.eq_zero_or_pos n with h0 | h0
    · subst h0
      rw [Der.pend_zero, List.nil_append]
      rfl
    · rw [pend_pos h0, List.append_assoc, ih (n / 128) (by omega) _ (by omega)]
      have hc : (UInt8.ofNat (128 + n % 128)).toNat = 128 + n % 128 := by rw [UInt8.toNat_ofNat']; omega
      show Der.oidFrom _ (UInt8.ofNat (128 + n % 128) :: r) = _
      rw [Der.oidFrom, Der.oidStep]
      simp only [hc]
      rw [if_neg, if_pos (by omega)]
      · simp only
        congr 2
        · omega
        · simp; omega
      · rintro (h | ⟨h1, h2⟩)
        · omega
        · simp at h1
          omega
theorem oid_fin (s : Der.OidS) (c : Nat) (r : List UInt8) (hc : c < 128) (h1 : s.n < 144115188075855872) :
    Der.oidFrom s (UInt8.ofNat c :: r) = Der.oidFrom (if s.arcs = [] then ⟨[min ((s.n * 128 + c) / 40) 2, (s.n * 128 + c) - 40 * min ((s.n * 128 + c) / 40) 2], 0, false⟩ else ⟨s.arcs ++ [s.n * 128 + c], 0, false⟩) r := by
  have hcc : (UInt8.ofNat c).toNat = c := by rw [UInt8.toNat_ofNat']; omega
  rw [Der.oidFrom, Der.oidStep]
  simp only [hcc]
  rw [if_neg (by rintro (h | ⟨_, h⟩) <;> omega), if_neg (by omega), Nat.mod_eq_of_lt hc]
  by_cases ha : s.arcs = []
  · rw [if_pos ha, if_pos ha]
  · rw [if_neg ha, if_neg ha]
theorem oid_sev0 (x : Nat) (r : List UInt8) (hx : x < 18446744073709551616) : Der.oidFrom ⟨[], 0, false⟩ (Der.sev x ++ r) = Der.oidFrom ⟨[min (x / 40) 2, x - 40 * min (x / 40) 2], 0, false⟩ r := by
  rw [sev_pend, List.append_assoc, oid_pend _ _ _ (by omega)]
  show Der.oidFrom _ (UInt8.ofNat (x % 128) :: r) = _
  rw [oid_fin _ _ _ (by omega) (by show x / 128 < _; omega), if_pos rfl]
  simp only
  rw [show x / 128 * 128 + x % 128 = x by omega]
theorem oid_sev (arcs : List Nat) (ha : arcs ≠ []) (x : Nat) (r : List UInt8) (hx : x < 18446744073709551616) : Der.oidFrom ⟨arcs, 0, false⟩ (Der.sev x ++ r) = Der.oidFrom ⟨arcs ++ [x], 0, false⟩ r := by
  rw [sev_pend, List.append_assoc, oid_pend _ _ _ (by omega)]
  show Der.oidFrom _ (UInt8.ofNat (x % 128) :: r) = _
  rw [oid_fin _ _ _ (by omega) (by show x / 128 < _; omega), if_neg ha]
  simp only
  rw [show x / 128 * 128 + x % 128 = x by omega]
theorem oid_sevs : ∀ (l arcs : List Nat), arcs ≠ [] → (∀ z ∈ l, z < 18446744073709551616) → Der.oidFrom ⟨arcs, 0, false⟩ (Der.sevs l) = some ⟨arcs ++ l, 0, false⟩
  | [], arcs, ha, _ => by rw [List.append_nil]; rfl
  | z :: l, arcs, ha, h => by
    show Der.oidFrom _ (Der.sev z ++ Der.sevs l) = _
    rw [oid_sev arcs ha z _ (h z (by simp)), oid_sevs l (arcs ++ [z]) (by simp) (fun y hy => h y (by simp [hy])), List.append_assoc]
    rfl
theorem oid_putOid (zs : List Nat) (h : ∀ z ∈ zs, z < 18446744073709551616) : Der.putOid zs = [] ∨ Der.oid (Der.putOid zs) = some zs := by
  match zs, h with
  | [], _ => left; rfl
  | [_], _ => left; rfl
  | a :: b :: r, h =>
    rw [Der.putOid]
    by_cases hok : Der.putOk a b = true
    · right
      rw [if_pos hok]
      unfold Der.putOk at hok
      simp only [Bool.and_eq_true, Bool.or_eq_true, decide_eq_true_eq] at hok
      unfold Der.oid
      rw [oid_sev0 _ _ (by omega), oid_sevs r _ (by simp) (fun y hy => h y (by simp [hy]))]
      simp only
      rw [if_neg (by simp)]
      have e1 : min ((40 * a + b) / 40) 2 = a := by omega
      rw [e1, show 40 * a + b - 40 * a = b by omega]
      rfl
    · left
      rw [if_neg hok]
/-- What the law takes as an identifier. -/
def X.strange (zs : List Nat) : List UInt8 :=
  if (Der.putOid zs).length = 0 ∨ 300 < (Der.putOid zs).length ∨ ((Der.putOid zs).length = 3 ∧ (Der.putOid zs).getD 0 0 = 85 ∧ (Der.putOid zs).getD 1 0 = 29) then [42, 3] else Der.putOid zs
/-- An identifier that is none of the three. -/
def Strange (b : List UInt8) : Prop := b.length ≤ 300 ∧ ∃ o, Der.oid b = some o ∧ o ≠ [2, 5, 29, 19] ∧ o ≠ [2, 5, 29, 15] ∧ o ≠ [2, 5, 29, 37]
theorem strange_is (zs : List Nat) (h : ∀ z ∈ zs, z < 18446744073709551616) : Strange (X.strange zs) := by
  unfold X.strange
  split
  · exact ⟨by simp, [1, 2, 3], by decide +kernel, by decide, by decide, by decide⟩
  · rename_i hno
    refine ⟨by omega, ?_⟩
    rcases oid_putOid zs h with h0 | h0
    · rw [h0] at hno; simp at hno
    · refine ⟨zs, h0, ?_, ?_, ?_⟩
      · rintro rfl; exact hno (.inr (.inr (by decide +kernel)))
      · rintro rfl; exact hno (.inr (.inr (by decide +kernel)))
      · rintro rfl; exact hno (.inr (.inr (by decide +kernel)))
theorem extq_len (nm : List UInt8) (q : Bool) (body : List UInt8) (h1 : nm.length ≤ 300) (h2 : body.length ≤ 500) : (E.extq nm q body).2.2.length ≤ nm.length + body.length + 24 := by
  have a1 := write_lt 6 nm _ (Nat.le_refl _) (by omega)
  have a2 := write_lt 4 body _ (Nat.le_refl _) (by omega)
  have hy : E.yes.2.2.length = 3 := by decide +kernel
  have hl : (raws ([El.mk 6 nm] ++ (if q then [E.yes] else []) ++ [El.mk 4 body])).length ≤ nm.length + body.length + 15 := by
    rw [raws_append, raws_append, List.length_append, List.length_append, raws_cons, raws_cons, raws_nil, List.append_nil, List.append_nil, mk_raw, mk_raw]
    cases q
    · simp only [Bool.false_eq_true, if_false, raws_nil, List.length_nil]; omega
    · simp only [if_true, raws_cons, raws_nil, List.append_nil, hy]; omega
  have a3 := write_lt 48 _ _ hl (by omega)
  unfold E.extq
  rw [mk_raw]
  omega
theorem strange_told {b body : List UInt8} (f : Fl) (q : Bool) (hb : Strange b) (h2 : body.length ≤ 500) : Cert.extension f (E.extq b q body) = if q then none else some (f, b) := by
  obtain ⟨hl, o, ho, h19, h15, h37⟩ := hb
  rw [(extq_mk (f := f) (q := q) (body := body) ho hl (by omega)).1]
  unfold Cert.told
  rw [if_neg h19, if_neg h15, if_neg h37]
  cases q
  · rfl
  · rfl
theorem plain_parse (k : Kase) (hp : k.path < 256) : ∃ t, Cert.parse (Ref.wr (Ref.seq (k.els.map (·.2.2) ++ X.tail [])) (k.sig.take 100)) = .yes (k.withFl t Fl.bare) (k.sig.take 100) := by
  have hw := els_wf k hp
  have hdd := els_deep k hp
  have h := seq_parse k.els (k.sig.take 100) hw.1 hdd (by have := hw.2; omega) (by rw [List.length_take]; omega)
  refine ⟨(El.mk 48 (raws k.els)).2.2, ?_⟩
  rw [show k.els.map (·.2.2) ++ X.tail [] = k.els.map (·.2.2) by unfold X.tail; rw [if_pos rfl, List.append_nil], h.2]
  have hs := kase_std k
  have hpp : Cert.parts 48 7 8 (El.mk 48 (raws k.els)) = some k.els := parts_mk (by rfl) rfl hw.1 (by rw [els_len]; omega) (by rw [els_len]; omega)
  have hq : k.els = [E.version, El.mk 2 k.serial, E.alg, E.name (k.iss.take 200), E.validity k.start k.stop, E.name (k.sub.take 200), E.key k.nn (k.e % 8589934592)] := rfl
  have hpp2 := hpp.trans (congrArg some hq)
  have h9 := sg_std (f := Fl.bare) (M := []) version_parts (by decide +kernel) (number_mk hs.ser) (by simp) (by show k.serial.length ≤ 20; exact hs.few) alg_method (by rfl) (validity_parts k.start k.stop) (by rfl) (general_mk hs.r1) (general_mk hs.r2) hs.less hs.key hpp2
  rw [told8_none rfl] at h9
  rw [h9]
  have e1 : (E.name (k.iss.take 200)).2.2 = Ref.name (k.iss.take 200) := name_raw _
  have e2 : (E.name (k.sub.take 200)).2.2 = Ref.name (k.sub.take 200) := name_raw _
  show Cert.Ans.yes _ _ = Cert.Ans.yes _ _
  unfold Kase.withFl
  rw [← e1, ← e2]
  rfl
theorem strange_parse (k : Kase) (hp : k.path < 256) {b body : List UInt8} (hb : Strange b) (h2 : body.length ≤ 500) :
    (∃ t, Cert.parse (Ref.wr (Ref.seq (k.els.map (·.2.2) ++ X.tail [X.ext b false body])) (k.sig.take 100)) = .yes (k.withFl t Fl.bare) (k.sig.take 100)) ∧
    Cert.parse (Ref.wr (Ref.seq (k.els.map (·.2.2) ++ X.tail [X.ext b true body])) (k.sig.take 100)) = .no 9 ∧
    Cert.parse (Ref.wr (Ref.seq (k.els.map (·.2.2) ++ X.tail [X.ext b false body, X.ext b false []])) (k.sig.take 100)) = .no 9 := by
  have hb1 := hb
  obtain ⟨hl, o, ho, _⟩ := hb1
  have l1 := fun q => extq_len b q body hl h2
  have l2 := extq_len b false [] hl (by simp)
  have m1 := fun q => extq_mk (f := Fl.bare) (q := q) (body := body) ho hl (by omega)
  have m2 := extq_mk (f := Fl.bare) (q := false) (body := []) ho hl (by simp)
  have one : ∀ q, ∃ t, Cert.parse (Ref.wr (Ref.seq (k.els.map (·.2.2) ++ X.tail [X.ext b q body])) (k.sig.take 100)) = match Cert.flags [E.extq b q body] with
      | none => .no 9
      | some f => .yes (k.withFl t f) (k.sig.take 100) := fun q => by
    obtain ⟨t, ht⟩ := with_parse k hp [E.extq b q body] (by simp) (fun y hy => by rw [List.mem_singleton.1 hy]; exact (m1 q).2.1) (fun y hy => by rw [List.mem_singleton.1 hy]; exact (m1 q).2.2.1) (by rw [raws_cons, raws_nil, List.append_nil]; have := l1 q; omega) (by simp)
    rw [show ([E.extq b q body] : List El).map (·.2.2) = [(E.extq b q body).2.2] from rfl, extq_raw] at ht
    exact ⟨t, ht⟩
  refine ⟨?_, ?_, ?_⟩
  · obtain ⟨t, ht⟩ := one false
    refine ⟨t, ?_⟩
    rw [ht]
    have hf : Cert.flags [E.extq b false body] = some Fl.bare := by
      unfold Cert.flags
      rw [exts_cons (strange_told Fl.bare false hb h2)]
      rfl
    rw [hf]
  · obtain ⟨t, ht⟩ := one true
    rw [ht]
    have hf : Cert.flags [E.extq b true body] = none := by
      unfold Cert.flags
      rw [exts_none (strange_told Fl.bare true hb h2)]
      rfl
    rw [hf]
  · obtain ⟨t, ht⟩ := with_parse k hp [E.extq b false body, E.extq b false []] (by simp)
      (fun y hy => by
        simp only [List.mem_cons, List.not_mem_nil, or_false] at hy
        rcases hy with rfl | rfl
        · exact (m1 false).2.1
        · exact m2.2.1)
      (fun y hy => by
        simp only [List.mem_cons, List.not_mem_nil, or_false] at hy
        rcases hy with rfl | rfl
        · exact (m1 false).2.2.1
        · exact m2.2.2.1)
      (by rw [raws_cons, raws_cons, raws_nil, List.append_nil, List.length_append]; have := l1 false; simp only [List.length_nil] at l2; omega) (by simp)
    rw [show ([E.extq b false body, E.extq b false []] : List El).map (·.2.2) = [(E.extq b false body).2.2, (E.extq b false []).2.2] from rfl, extq_raw, extq_raw] at ht
    rw [ht]
    have hf : Cert.flags [E.extq b false body, E.extq b false []] = none := by
      unfold Cert.flags
      have h1 : Cert.exts Fl.bare [E.extq b false body, E.extq b false []] = some (Fl.bare, [b, b]) := by
        rw [Cert.exts, strange_told Fl.bare false hb h2]
        simp only [Bool.false_eq_true, if_false, Option.bind_some]
        rw [Cert.exts, strange_told Fl.bare false hb (by simp)]
        rfl
      rw [h1]
      simp only [Option.bind_some]
      rw [must_f (by simp [distinct])]
      rfl
    rw [hf]
end Go.Proofs.Ytmnekhliblkibaa
