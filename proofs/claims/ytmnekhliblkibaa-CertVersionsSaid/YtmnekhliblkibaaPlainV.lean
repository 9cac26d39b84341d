/- Versions: how a case's certificate with another version is read; and one without. Plain Lean. -/
import Derived.Test.YtmnekhliblkibaaPlain9
namespace Go.Proofs.Ytmnekhliblkibaa
open Go.RowKit
set_option maxRecDepth 100000
set_option linter.unusedVariables false
set_option linter.unusedSimpArgs false

def Ref.four (v : Nat) : List UInt8 := [UInt8.ofNat (v / 16777216 % 256), UInt8.ofNat (v / 65536 % 256), UInt8.ofNat (v / 256 % 256), UInt8.ofNat (v % 256)]
theorem four_be (v : Nat) : Der.be (Ref.four v) = v % 4294967296 := by
  simp only [Der.be, Ref.four, List.foldl_cons, List.foldl_nil, UInt8.toNat_ofNat']
  omega
theorem putInt_small (v : Nat) : (Der.putInt (Ref.four v)).length ≤ 5 := by
  have := putInt_len (Ref.four v)
  have h4 : (Ref.four v).length = 4 := rfl
  omega
def E.ver (v : Nat) : El := El.mk 160 (El.mk 2 (Der.putInt (Ref.four v))).2.2
theorem ver_raw (v : Nat) : (E.ver v).2.2 = Der.write 160 (Der.write 2 (Der.putInt (Ref.four v))) := rfl
theorem ver_wf (v : Nat) : El.wf (E.ver v) ∧ El.wf (El.mk 2 (Der.putInt (Ref.four v))) ∧ (E.ver v).2.2.length ≤ 20 ∧ Der.thr 13 (E.ver v).1 (E.ver v).2.1 = 0 ∧ Cert.parts 160 1 1 (E.ver v) = some [El.mk 2 (Der.putInt (Ref.four v))] := by
  have h0 := putInt_small v
  have h1 := write_lt 2 (Der.putInt (Ref.four v)) 5 h0 (by omega)
  have h2 := write_lt 160 (Der.write 2 (Der.putInt (Ref.four v))) 11 h1 (by omega)
  have w1 : El.wf (El.mk 2 (Der.putInt (Ref.four v))) := El.mk_wf (by decide) (by omega)
  have e : (E.ver v).2.1 = raws [El.mk 2 (Der.putInt (Ref.four v))] := by
    rw [raws_cons, raws_nil, List.append_nil]
    rfl
  refine ⟨El.mk_wf (by decide) (by rw [mk_raw]; omega), w1, by rw [ver_raw]; omega, ?_, ?_⟩
  · rw [e]
    exact thr_cons (k := 12) (fun y hy => by rw [List.mem_singleton.1 hy]; exact w1) (fun y hy => by rw [List.mem_singleton.1 hy]; exact thr_leaf _ rfl)
  · exact parts_mk (by rfl) e (fun y hy => by rw [List.mem_singleton.1 hy]; exact w1) (by simp) (by simp)
theorem putInt_two {xs : List UInt8} (h : Der.putInt xs = [2]) : Der.be xs = 2 := by
  have h1 := int_putInt xs
  rw [h] at h1
  have h2 : Der.int [2] = some [2] := by decide +kernel
  rw [h2] at h1
  injection h1 with h1
  rw [← be_trim, ← h1]
  decide +kernel
theorem trim_bytes : ∀ (xs : List UInt8), Der.be xs = 2 → Der.trim xs = [2]
  | [], h => by simp [Der.be] at h
  | x :: xs, h => by
    by_cases hx : x = 0
    · subst hx
      rw [be_zero] at h
      rw [trim_cons0]
      exact trim_bytes xs h
    · rw [trim_stop xs hx]
      have hpos : 0 < x.toNat := by
        rcases Nat.eq_zero_or_pos x.toNat with h0 | h0
        · exact absurd (UInt8.toNat_inj.1 (by simpa using h0)) hx
        · exact h0
      have hge : ∀ (r : List UInt8) (a : Nat), a ≤ r.foldl (fun a x => a * 256 + x.toNat) a ∧ (r ≠ [] → a * 256 ≤ r.foldl (fun a x => a * 256 + x.toNat) a) := by
        intro r
        induction r with
        | nil => intro a; exact ⟨Nat.le_refl _, fun h => absurd rfl h⟩
        | cons y r ih =>
          intro a
          have := ih (a * 256 + y.toNat)
          simp only [List.foldl_cons]
          exact ⟨by omega, fun _ => by omega⟩
      have h2 : xs.foldl (fun a x => a * 256 + x.toNat) (0 * 256 + x.toNat) = 2 := h
      cases xs with
      | nil =>
        simp only [List.foldl_nil] at h2
        have : x = 2 := UInt8.toNat_inj.1 (by rw [show (2 : UInt8).toNat = 2 from rfl]; omega)
        rw [this]
      | cons y ys =>
        have := (hge (y :: ys) (0 * 256 + x.toNat)).2 (by simp)
        omega
theorem version_two (v : Nat) : ((El.mk 2 (Der.putInt (Ref.four v))).2.2 == [2, 1, 2]) = decide (v % 4294967296 = 2) := by
  rw [Bool.eq_iff_iff, beq_iff_eq, decide_eq_true_eq, ← four_be]
  constructor
  · intro h
    have h1 := elem_wf (ver_wf v).2.1 []
    rw [List.append_nil, h] at h1
    have h2 : Der.elem [2, 1, 2] = some (2, [2], [2, 1, 2], []) := by decide +kernel
    rw [h2] at h1
    simp only [Option.some.injEq, Prod.mk.injEq] at h1
    exact putInt_two h1.2.1.symm
  · intro h
    have h1 : Der.putInt (Ref.four v) = [2] := by
      unfold Der.putInt
      rw [trim_bytes _ h, if_neg (by decide)]
    rw [mk_raw, h1]
    decide +kernel
theorem versions_parse (k : Kase) (hp : k.path < 256) (v : Nat) :
    ((Cert.parse (Ref.wr (Ref.seq ((k.els.map (·.2.2)).set 0 (Der.write 160 (Der.write 2 (Der.putInt (Ref.four v)))))) (k.sig.take 100)) = .no 9) ∧ v % 4294967296 ≠ 2) ∨
    (∃ s, Cert.parse (Ref.wr (Ref.seq ((k.els.map (·.2.2)).set 0 (Der.write 160 (Der.write 2 (Der.putInt (Ref.four v)))))) (k.sig.take 100)) = .yes s (k.sig.take 100)) ∧ v % 4294967296 = 2 := by
  have hv := ver_wf v
  obtain ⟨h1, h2⟩ := put_parse k hp 0 (E.ver v) hv.1 hv.2.2.2.1 (by have := hv.2.2.1; omega)
  rw [ver_raw] at h1
  have hs := kase_std k
  rw [els_eq] at h2
  simp only [List.set_cons_zero] at h2
  have h2' : Cert.parts 48 7 8 (El.mk 48 (raws (k.els.set 0 (E.ver v)))) = _ := h2
  by_cases hok : v % 4294967296 = 2
  · right
    refine ⟨?_, hok⟩
    have hv2 : (El.mk 2 (Der.putInt (Ref.four v))).2.2 = [2, 1, 2] := by
      have := version_two v
      rw [decide_eq_true hok] at this
      simpa using this
    have h := sg_std (f := Fl.bare) (M := []) hv.2.2.2.2 hv2 (number_mk hs.ser) (by simp) (by show k.serial.length ≤ 20; exact hs.few) alg_method (by rfl) (validity_parts k.start k.stop) (by rfl) (general_mk hs.r1) (general_mk hs.r2) hs.less hs.key h2'
    rw [told8_none rfl] at h
    rw [h1, h]
    exact ⟨_, rfl⟩
  · left
    refine ⟨?_, hok⟩
    rw [h1]
    have : Cert.signed Fl.bare (El.mk 48 (raws (k.els.set 0 (E.ver v)))) = none := by
      unfold Cert.signed
      rw [h2']
      simp only [Option.bind_some, Sg.a, Sg.b, List.getD_cons_zero]
      rw [hv.2.2.2.2]
      simp only [Option.bind_some, List.getD_cons_zero]
      rw [must_f (by rw [version_two, decide_eq_false hok])]
      rfl
    rw [this]
theorem noversion_parse (k : Kase) (hp : k.path < 256) : Cert.parse (Ref.wr (Ref.seq ((k.els.drop 1).map (·.2.2))) []) = .no 9 := by
  have hw := els_wf k hp
  have hdd := els_deep k hp
  have hl : (raws (k.els.drop 1)).length ≤ (raws k.els).length := by
    rw [els_eq]
    simp only [List.drop_succ_cons, List.drop_zero, raws_cons, List.length_append]
    omega
  have h := seq_parse (k.els.drop 1) [] (fun z hz => hw.1 z (List.mem_of_mem_drop hz)) (fun z hz => hdd z (List.mem_of_mem_drop hz)) (by have := hw.2; omega) (by simp)
  rw [h.2]
  have : Cert.signed Fl.bare (El.mk 48 (raws (k.els.drop 1))) = none := by
    unfold Cert.signed Cert.parts
    rw [body_mk (by rfl)]
    simp only [Option.bind_some]
    rw [show (El.mk 48 (raws (k.els.drop 1))).2.1 = raws (k.els.drop 1) from rfl, all_mk (fun z hz => hw.1 z (List.mem_of_mem_drop hz))]
    simp only [Option.bind_some]
    rw [must_f (by rw [List.length_drop, els_len]; decide)]
    rfl
  rw [this]
end Go.Proofs.Ytmnekhliblkibaa
