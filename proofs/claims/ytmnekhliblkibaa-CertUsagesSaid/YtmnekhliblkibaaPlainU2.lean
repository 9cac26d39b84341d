/- Usages: a bit of the sum, and what a clear bit lays. Plain Lean. -/
import Derived.Test.YtmnekhliblkibaaPlainU

namespace Go.Proofs.Ytmnekhliblkibaa
open Go.RowKit
set_option maxRecDepth 100000
set_option linter.unusedVariables false
set_option linter.unusedSimpArgs false

theorem sum_bit (bits : List Bool) (j : Nat) : ∀ n, j < n → U.sum bits n / 2 ^ j % 2 = if bits.getD j false then 1 else 0
  | 0, h => absurd h (by omega)
  | n + 1, h => by
    by_cases e : j = n
    · subst e
      exact sum_div bits j
    · have ih := sum_bit bits j n (by omega)
      obtain ⟨d, rfl⟩ : ∃ d, n = j + (d + 1) := ⟨n - j - 1, by omega⟩
      rw [U.sum]
      split
      · rw [show 2 ^ (j + (d + 1)) = 2 ^ j * (2 * 2 ^ d) by rw [Nat.pow_add, Nat.pow_succ]; congr 1; omega, Nat.add_mul_div_left _ _ (Nat.pow_pos (by omega)), Nat.add_mul_mod_self_left]
        exact ih
      · exact ih
theorem lay_false (u : Nat) (cs : List UInt8) (j : Nat) (h : u / 2 ^ j % 2 = 0) : Ref.lay u cs (j + 1) = Ref.lay u cs j := by
  rw [Ref.lay, h, Nat.zero_mul]
  have h0 : UInt8.ofNat 0 = 0 := rfl
  simp only [h0, UInt8.or_zero]
  by_cases hl : 1 + j / 8 < (Ref.lay u cs j).length
  · rw [List.getD_eq_getElem?_getD, List.getElem?_eq_getElem hl, Option.getD_some, List.set_getElem_self]
  · rw [List.set_eq_of_length_le (by omega)]
theorem told_few {bits : List Bool} {n : Nat} (hl : bits.length = n) (h : n < 1) : U.told bits = none := by
  unfold U.told
  rw [if_neg (by omega)]
theorem told_many {bits : List Bool} {n : Nat} (hl : bits.length = n) (h : 9 < n) : U.told bits = none := by
  unfold U.told
  rw [if_neg (by omega)]
theorem told_last {bits : List Bool} {m : Nat} {x : Bool} (hl : bits.length = m + 1) (h : m + 1 ≤ 9) (hx : bits[m]? = some x) : U.told bits = if x then some (U.sum bits (m + 1)) else none := by
  unfold U.told
  rw [hl, Nat.add_sub_cancel, List.getD_eq_getElem?_getD, hx, Option.getD_some]
  cases x
  · rw [if_neg (by simp)]; rfl
  · rw [if_pos ⟨by omega, h, rfl⟩]; rfl
theorem bit_val (j : Nat) (c : UInt8) : Value.int .u8 (bits .or .u8 (c.toNat : Int) (((2 ^ (7 - j % 8) : Nat)) : Int)) = bv (c ||| UInt8.ofNat (1 * 2 ^ (7 - j % 8))) := by
  have hp : 2 ^ (7 - j % 8) ≤ 128 := by
    have : 2 ^ (7 - j % 8) ≤ 2 ^ 7 := Nat.pow_le_pow_right (by omega) (by omega)
    omega
  obtain ⟨p, hp2⟩ : ∃ p, 2 ^ (7 - j % 8) = p := ⟨_, rfl⟩
  rw [hp2] at hp ⊢
  rw [u8_or_nat _ _ c.toNat_lt (by omega), Nat.one_mul]
  unfold bv
  rw [UInt8.toNat_or, UInt8.toNat_ofNat', Nat.mod_eq_of_lt (by omega)]
theorem bit_shr (j : Nat) (c : UInt8) : Value.int .u8 (bits .or .u8 (c.toNat : Int) (128 / 2 ^ (j % 8))) = bv (c ||| UInt8.ofNat (1 * 2 ^ (7 - j % 8))) := by
  rw [← bit_val j c]
  have h : ∀ m < 8, (128 : Int) / 2 ^ m = ((2 ^ (7 - m) : Nat) : Int) := by decide +kernel
  rw [h (j % 8) (Nat.mod_lt _ (by omega))]
theorem sum_wrap (s j : Nat) (hs : s < 2199023255552) (hj : j ≤ 41) : wrap64 ((s : Int) + wrap64 (2 ^ j)) = ((s + 2 ^ j : Nat) : Int) := by
  have h1 : 2 ^ j ≤ 2 ^ 41 := Nat.pow_le_pow_right (by omega) hj
  obtain ⟨p, hp⟩ : ∃ p, 2 ^ j = p := ⟨_, rfl⟩
  have hpI : (2 : Int) ^ j = (p : Int) := by rw [← hp]; push_cast; rfl
  rw [hp] at h1 ⊢
  rw [hpI]
  unfold wrap64
  omega
theorem lay_true (u : Nat) (cs : List UInt8) (j jj : Nat) (cc : UInt8) (hj : 1 + j / 8 = jj) (hc : (Ref.lay u cs j).getD jj 0 = cc) (h : u / 2 ^ j % 2 = 1) : Ref.lay u cs (j + 1) = (Ref.lay u cs j).set jj (cc ||| UInt8.ofNat (1 * 2 ^ (7 - j % 8))) := by
  rw [Ref.lay, h]
  simp only [hj, hc]
end Go.Proofs.Ytmnekhliblkibaa
