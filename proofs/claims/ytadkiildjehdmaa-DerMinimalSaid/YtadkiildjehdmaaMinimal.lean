/- The walk of the law DerMinimal. -/
import Derived.Test.YtadkiildjehdmaaWorks
import Derived.Test.YtadkiildjehdmaaPlain1
import Derived.Test.YtadkiildjehdmaaZeros
import Derived.Test.YtadkiildjehdmaaOpen
namespace Go.Proofs.Ytadkiildjehdmaa
open Go.RowKit
set_option maxRecDepth 1000000
set_option linter.unusedVariables false
set_option linter.unusedSimpArgs false

def MinPost (w : World) (e : Ending) (w' : World) : Prop := e = .returned (.bool true) ∧ Below w.heap.size w w'

namespace Der
/-- The byte at place i of a number's, the lowest first; none beyond the fourth. -/
def low (n i : Nat) : UInt8 := if i < 4 then UInt8.ofNat (n / 256 ^ i) else 0
/-- The m bytes of a number, the highest first, as far as those beyond k. -/
def lows (n m k : Nat) : List UInt8 := (List.range (m - k)).map fun j => low n (m - 1 - j)
theorem lows_succ (n m k : Nat) (h : k + 1 ≤ m) : lows n m k = lows n m (k + 1) ++ [low n k] := by
  unfold lows
  rw [show m - k = (m - (k + 1)) + 1 from by omega, List.range_succ, List.map_append]
  simp only [List.map_cons, List.map_nil, List.append_cancel_left_eq, List.cons.injEq, and_true]
  congr 1
  omega
theorem lows_len (n m k : Nat) : (lows n m k).length = m - k := by simp [lows]
theorem lows_self (n m : Nat) : lows n m m = [] := by simp [lows]
def minB (t : UInt8) (n m : Nat) : List UInt8 := ([t, UInt8.ofNat (128 + m)] ++ lows n m 0) ++ List.replicate n 0
def need (n : Nat) : Nat := if 256 ≤ n then 2 else if 128 ≤ n then 1 else 0
theorem low_hi {n i : Nat} (hn : n ≤ 300) (hi : 2 ≤ i) : low n i = 0 := by
  unfold low
  split
  · have : n / 256 ^ i = 0 := by
      apply Nat.div_eq_of_lt
      have := Nat.pow_le_pow_right (n := 256) (by omega) hi
      omega
    rw [this]; rfl
  · rfl
theorem ofNat_ne {n : Nat} (h : n % 256 ≠ 0) : UInt8.ofNat n ≠ 0 := by
  intro e
  have := congrArg UInt8.toNat e
  rw [UInt8.toNat_ofNat'] at this
  simp at this
  omega
theorem lenOf_min (t : UInt8) (n m : Nat) (hn : n ≤ 300) (hm : m ≤ 10) : lenOf (minB t n m) = if m = need n ∧ need n ≠ 0 then some (2 + m, n) else none := by
  have hl : (UInt8.ofNat (128 + m)).toNat = 128 + m := by rw [UInt8.toNat_ofNat']; omega
  have hb : minB t n m = t :: UInt8.ofNat (128 + m) :: (lows n m 0 ++ List.replicate n 0) := by simp [minB]
  rw [hb]
  simp only [lenOf, hl]
  rw [if_neg (by omega), show 128 + m - 128 = m from by omega]
  have hlen := lows_len n m 0
  have htake : (lows n m 0 ++ List.replicate n 0).take m = lows n m 0 := List.take_left' (by simpa using hlen)
  rw [htake]
  rcases Nat.eq_zero_or_pos m with h0 | h0
  · subst h0
    rw [if_pos (.inl rfl), if_neg (by omega)]
  by_cases h5 : 5 ≤ m
  · rw [if_pos (.inr (.inl (by omega))), if_neg (by unfold need; split <;> (try split) <;> omega)]
  by_cases h3 : 3 ≤ m
  · have hh : (lows n m 0 ++ List.replicate n 0).headD 0 = 0 := by
      obtain ⟨k, rfl⟩ : ∃ k, m = k + 1 := ⟨m - 1, by omega⟩
      simp only [lows, Nat.sub_zero, List.range_succ_eq_map, List.map_cons, List.cons_append, List.headD_cons]
      exact low_hi hn (by omega)
    rw [if_pos (.inr (.inr (.inr hh))), if_neg (by unfold need; split <;> (try split) <;> omega)]
  have hb1 : ∀ x : UInt8, be [x] = x.toNat := by intro x; simp [be]
  have hb2 : ∀ x y : UInt8, be [x, y] = x.toNat * 256 + y.toNat := by intro x y; simp [be]
  have hm12 : m = 1 ∨ m = 2 := by omega
  rcases hm12 with rfl | rfl
  · have hlw : lows n 1 0 = [UInt8.ofNat n] := by simp [lows, low, List.range_succ]
    rw [hlw, hb1, UInt8.toNat_ofNat']
    by_cases hz : n % 256 = 0
    · rw [if_pos (.inr (.inr (.inr (by
        simp only [List.cons_append, List.headD_cons]
        apply UInt8.toNat_inj.1
        rw [UInt8.toNat_ofNat']; simpa using hz))))]
      rw [if_neg (by unfold need; split <;> (try split) <;> omega)]
    · rw [if_neg (by
        rintro (h | h | h | h)
        · omega
        · omega
        · simp at h
        · simp only [List.cons_append, List.headD_cons] at h
          exact ofNat_ne hz h)]
      by_cases h8 : n % 2 ^ 8 < 128
      · rw [if_pos h8, if_neg (by unfold need; split <;> (try split) <;> omega)]
      · rw [if_neg h8, if_pos (by unfold need; constructor <;> (split <;> (try split) <;> omega))]
        simp only [Option.some.injEq, Prod.mk.injEq, true_and]
        omega
  · have hlw : lows n 2 0 = [UInt8.ofNat (n / 256), UInt8.ofNat n] := by simp [lows, low, List.range_succ]
    rw [hlw, hb2, UInt8.toNat_ofNat', UInt8.toNat_ofNat']
    by_cases hz : n / 256 = 0
    · rw [if_pos (.inr (.inr (.inr (by simp [hz]))))]
      rw [if_neg (by unfold need; split <;> (try split) <;> omega)]
    · rw [if_neg (by
        rintro (h | h | h | h)
        · omega
        · omega
        · simp at h; omega
        · simp only [List.cons_append, List.headD_cons] at h
          exact ofNat_ne (by omega) h), if_neg (by omega), if_pos (by unfold need; constructor <;> (split <;> (try split) <;> omega))]
      simp only [Option.some.injEq, Prod.mk.injEq, true_and]
      omega
theorem minB_len (t : UInt8) (n m : Nat) : (minB t n m).length = 2 + m + n := by simp [minB, lows_len]; omega
theorem elem_min_no (t : UInt8) (n m : Nat) (hn : n ≤ 300) (hm : m ≤ 10) (h : ¬ (m = need n ∧ need n ≠ 0)) : elem (minB t n m) = none := by
  have := lenOf_min t n m hn hm
  rw [if_neg h] at this
  unfold elem hdr
  split
  · rename_i f k he
    split at he
    · cases he
    · rw [this] at he; cases he
  · rfl
theorem elem_min_yes (t : UInt8) (n m : Nat) (hn : n ≤ 300) (hm : m ≤ 10) (h : m = need n ∧ need n ≠ 0) (ht : t.toNat % 32 ≠ 31) : ∃ body raw rest, elem (minB t n m) = some (t, body, raw, rest) ∧ body.length = n := by
  have hl := lenOf_min t n m hn hm
  rw [if_pos h] at hl
  have hlen := minB_len t n m
  have hd : (minB t n m).headD 0 = t := by simp [minB]
  have hh : hdr (minB t n m) = some (2 + m, n) := by
    unfold hdr tagBad
    rw [hd, hl]
    simp [ht]
  have he : elem (minB t n m) = some (t, ((minB t n m).take (2 + m + n)).drop (2 + m), (minB t n m).take (2 + m + n), (minB t n m).drop (2 + m + n)) := by
    unfold elem
    rw [hh]
    simp only
    rw [if_pos (by omega), hd]
  exact ⟨_, _, _, he, by simp; omega⟩
end Der
end Go.Proofs.Ytadkiildjehdmaa
