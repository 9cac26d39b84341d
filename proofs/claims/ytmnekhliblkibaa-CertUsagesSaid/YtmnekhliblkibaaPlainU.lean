/- Usages: what bits, laid, are read as. Plain Lean. -/
import Derived.Test.YtmnekhliblkibaaPlainW
namespace Go.Proofs.Ytmnekhliblkibaa
open Go.RowKit
set_option maxRecDepth 100000
set_option linter.unusedVariables false
set_option linter.unusedSimpArgs false

theorem lay_cons (u : Nat) (b0 : UInt8) (r : List UInt8) : ∀ k, ∃ r', Ref.lay u (b0 :: r) k = b0 :: r' ∧ r'.length = r.length
  | 0 => ⟨r, rfl, rfl⟩
  | k + 1 => by
    obtain ⟨r', h, hl⟩ := lay_cons u b0 r k
    rw [Ref.lay]
    simp only [h]
    rw [show 1 + k / 8 = k / 8 + 1 by omega, List.set_cons_succ]
    exact ⟨_, rfl, by rw [List.length_set, hl]⟩
def U.laid (u n : Nat) : List UInt8 := Ref.lay u (Ref.ub0 n) n
theorem used_few : ∀ n < 10, ∀ u < 2 ^ n, Cert.used (U.laid u n) = if 1 ≤ n ∧ u / 2 ^ (n - 1) % 2 = 1 then some u else none := by decide +kernel
theorem used_many (n u : Nat) (h : 9 < n) : Cert.used (U.laid u n) = none := by
  obtain ⟨r', h1, h2⟩ := lay_cons u (UInt8.ofNat ((8 - n % 8) % 8)) (List.replicate ((n + 7) / 8) 0) n
  have h3 : U.laid u n = UInt8.ofNat ((8 - n % 8) % 8) :: r' := h1
  rw [List.length_replicate] at h2
  unfold Cert.used
  rw [h3]
  have hb : (UInt8.ofNat ((8 - n % 8) % 8)).toNat = (8 - n % 8) % 8 := by rw [UInt8.toNat_ofNat']; omega
  simp only [Der.bits, hb]
  split
  · rfl
  · split
    · simp only [Option.bind_some]
      rw [must_f (by
        simp only [Bool.and_eq_false_iff, decide_eq_false_iff_not]
        right
        omega)]
      rfl
    · rfl
/-- The bits' sum. -/
def U.sum (bits : List Bool) : Nat → Nat
  | 0 => 0
  | k + 1 => U.sum bits k + if bits.getD k false then 2 ^ k else 0
theorem sum_lt (bits : List Bool) : ∀ k, U.sum bits k < 2 ^ k
  | 0 => by simp [U.sum]
  | k + 1 => by
    have h := sum_lt bits k
    rw [U.sum, Nat.pow_succ]
    split <;> omega
theorem sum_div (bits : List Bool) (k : Nat) : U.sum bits (k + 1) / 2 ^ k % 2 = if bits.getD k false then 1 else 0 := by
  have h := sum_lt bits k
  rw [U.sum]
  split
  · rw [Nat.add_div_right _ (Nat.pow_pos (by omega)), Nat.div_eq_of_lt h]
  · rw [Nat.add_zero, Nat.div_eq_of_lt h]
/-- The usage that so many bits tell. -/
def U.told (bits : List Bool) : Option Nat := if 1 ≤ bits.length ∧ bits.length ≤ 9 ∧ bits.getD (bits.length - 1) false = true then some (U.sum bits bits.length) else none
theorem used_bits (bits : List Bool) : Cert.used (U.laid (U.sum bits bits.length) bits.length) = U.told bits := by
  unfold U.told
  by_cases h9 : bits.length ≤ 9
  · rw [used_few bits.length (by omega) _ (sum_lt bits _)]
    by_cases h1 : 1 ≤ bits.length
    · obtain ⟨m, hm⟩ : ∃ m, bits.length = m + 1 := ⟨bits.length - 1, by omega⟩
      rw [hm, Nat.add_sub_cancel, sum_div]
      cases hb : bits.getD m false with
      | true => rw [if_pos ⟨by omega, by rfl⟩, if_pos ⟨by omega, by omega, rfl⟩]
      | false => rw [if_neg (fun h => by have := h.2; simp at this), if_neg (fun h => by have := h.2.2; simp at this)]
    · rw [if_neg (by omega), if_neg (by omega)]
  · rw [used_many _ _ (by omega), if_neg (by omega)]
theorem laid_small (u n : Nat) (h : n ≤ 40) : (U.laid u n).length ≤ 6 := by
  obtain ⟨r', h1, h2⟩ := lay_cons u (UInt8.ofNat ((8 - n % 8) % 8)) (List.replicate ((n + 7) / 8) 0) n
  have h3 : U.laid u n = UInt8.ofNat ((8 - n % 8) % 8) :: r' := h1
  rw [h3, List.length_cons, h2, List.length_replicate]
  omega
theorem usages_parse (k : Kase) (hk : k.path < 256) (q : Bool) (bits : List Bool) (hb : bits.length ≤ 40) :
    (U.told bits = none ∧ Cert.parse (Ref.wr (Ref.seq (k.els.map (·.2.2) ++ X.tail [X.ext [85, 29, 15] q (Der.write 3 (U.laid (U.sum bits bits.length) bits.length))])) (k.sig.take 100)) = .no 9) ∨
    (∃ u, U.told bits = some u ∧ ∃ s, Cert.parse (Ref.wr (Ref.seq (k.els.map (·.2.2) ++ X.tail [X.ext [85, 29, 15] q (Der.write 3 (U.laid (U.sum bits bits.length) bits.length))])) (k.sig.take 100)) = .yes s (k.sig.take 100) ∧ s.fl.usage = (u : Int)) := by
  have hl := laid_small (U.sum bits bits.length) bits.length hb
  have hw := write_lt 3 (U.laid (U.sum bits bits.length) bits.length) 6 hl (by omega)
  have hx := extq_mk (f := Fl.bare) (q := q) (body := Der.write 3 (U.laid (U.sum bits bits.length) bits.length)) oid_usage (by simp) (by omega)
  obtain ⟨t, ht⟩ := with_parse k hk [E.extq [85, 29, 15] q (Der.write 3 (U.laid (U.sum bits bits.length) bits.length))] (by simp) (fun y hy => by rw [List.mem_singleton.1 hy]; exact hx.2.1) (fun y hy => by rw [List.mem_singleton.1 hy]; exact hx.2.2.1) (by rw [raws_cons, raws_nil, List.append_nil]; have := hx.2.2.2; omega) (by simp)
  rw [show ([E.extq [85, 29, 15] q (Der.write 3 (U.laid (U.sum bits bits.length) bits.length))] : List El).map (·.2.2) = [(E.extq [85, 29, 15] q (Der.write 3 (U.laid (U.sum bits bits.length) bits.length))).2.2] from rfl, extq_raw] at ht
  have hf1 : Cert.flags [E.extq [85, 29, 15] q (Der.write 3 (U.laid (U.sum bits bits.length) bits.length))] = (U.told bits).bind fun u => some {Fl.bare with usage := (u : Int)} := by
    unfold Cert.flags
    have hto : Cert.extension Fl.bare (E.extq [85, 29, 15] q (Der.write 3 (U.laid (U.sum bits bits.length) bits.length))) = (U.told bits).bind fun u => some ({Fl.bare with usage := (u : Int)}, [85, 29, 15]) := by
      rw [hx.1]
      unfold Cert.told
      rw [if_neg (by decide), if_pos rfl, extq_last, show Der.write 3 (U.laid (U.sum bits bits.length) bits.length) = (El.mk 3 (U.laid (U.sum bits bits.length) bits.length)).2.2 from rfl, only_mk (El.mk_wf (by decide) (by omega))]
      simp only [Option.bind_some]
      rw [usage_used, used_bits]
      cases U.told bits <;> rfl
    cases hu : U.told bits with
    | none => rw [hu] at hto; rw [exts_none hto]; rfl
    | some u => rw [hu] at hto; rw [exts_cons hto]; rfl
  rw [hf1] at ht
  rw [ht]
  cases hu : U.told bits with
  | none => left; exact ⟨rfl, rfl⟩
  | some u => right; exact ⟨u, rfl, _, rfl, rfl⟩
end Go.Proofs.Ytmnekhliblkibaa
