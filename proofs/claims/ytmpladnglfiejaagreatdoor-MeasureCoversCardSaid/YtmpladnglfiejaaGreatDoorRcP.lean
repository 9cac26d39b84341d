/- What the law MeasureCovers tells, in plain words: the places rise, and tell each byte but the two fields. -/
import Derived.Test.YtmpladnglfiejaaGreatDoorMePlain2
namespace Go.Proofs.YtmpladnglfiejaaGreatDoor
set_option linter.unusedVariables false
set_option linter.unusedSimpArgs false
namespace Pe
/-- Where the place before the j-th ends. -/
def atOf (l : List (Nat × Nat)) : Nat → Nat
  | 0 => 0
  | j + 1 => (l.getD j (0, 0)).2
theorem atOf_succ {l : List (Nat × Nat)} {j : Nat} {x : Nat × Nat} (h : l[j]? = some x) : atOf l (j + 1) = x.2 := by
  show (l.getD j (0, 0)).2 = x.2
  rw [List.getD_eq_getElem?_getD, h]
  rfl
theorem atOf_sec {xs : List UInt8} (h : err xs = 0) {i : Nat} (hi : i ≤ (secs xs).length) : atOf (ranges xs) (3 + i) = headers xs + sizes ((riseS (secs xs)).take i) := by
  cases i with
  | zero => rw [atOf_succ (ranges_heads xs).2.2]; simp [sizes]
  | succ i =>
    obtain ⟨x, _, h1, _, _⟩ := sec_at h (i := i) (by omega)
    rw [show 3 + (i + 1) = (3 + i) + 1 by omega, atOf_succ h1]
/-- The places rise. -/
theorem ranges_rise {xs : List UInt8} (h : err xs = 0) {j : Nat} {x : Nat × Nat} (hx : (ranges xs)[j]? = some x) : atOf (ranges xs) j ≤ x.1 := by
  obtain ⟨r0, r1, r2⟩ := ranges_heads xs
  match j, hx with
  | 0, hx => exact Nat.zero_le _
  | 1, hx =>
    rw [r1] at hx
    injection hx with hx
    subst hx
    rw [atOf_succ r0]
    show opt xs + 64 ≤ opt xs + 68
    omega
  | 2, hx =>
    rw [r2] at hx
    injection hx with hx
    subst hx
    rw [atOf_succ r1]
    show dirs xs + 32 ≤ dirs xs + 40
    omega
  | j + 3, hx =>
    rw [show j + 3 = 3 + j by omega] at hx ⊢
    have hl := ranges_len xs
    have hj := (List.getElem?_eq_some_iff.1 hx).1
    have hjl : j ≤ (secs xs).length := by split at hl <;> omega
    rw [atOf_sec h hjl]
    rcases Nat.lt_or_ge j (secs xs).length with hlt | hge
    · obtain ⟨y, _, h1, _, _⟩ := sec_at h hlt
      rw [h1] at hx
      injection hx with hx
      subst hx
      exact Nat.le_refl _
    · obtain rfl : j = (secs xs).length := by omega
      have hen : end_ xs < last xs := by
        rcases Nat.lt_or_ge (end_ xs) (last xs) with h1 | h1
        · exact h1
        · rw [if_neg (by omega)] at hl
          omega
      rw [ranges_last xs hen] at hx
      injection hx with hx
      subst hx
      rw [end_eq]
      exact Nat.le_refl _
/-- The bytes below i, without the two fields. -/
def wants (ck dr : Nat) (xs : List UInt8) (i : Nat) : List UInt8 := xs.take (min i ck) ++ (xs.take (min i dr)).drop (ck + 4) ++ (xs.take i).drop (dr + 8)
theorem wants_zero (ck dr : Nat) (xs : List UInt8) : wants ck dr xs 0 = [] := by simp [wants]
theorem wants_len (ck dr : Nat) (xs : List UInt8) (i : Nat) : (wants ck dr xs i).length ≤ 3 * xs.length := by
  unfold wants
  simp only [List.length_append, List.length_take, List.length_drop]
  omega
theorem drop_nil {l : List UInt8} {a b : Nat} (h : a ≤ b) : (l.take a).drop b = [] := List.drop_eq_nil_of_le (by rw [List.length_take]; omega)
theorem drop_snoc {l : List UInt8} {i b : Nat} {x : UInt8} (hx : l[i]? = some x) (h : b ≤ i) : (l.take (i + 1)).drop b = (l.take i).drop b ++ [x] := by
  have hi := (List.getElem?_eq_some_iff.1 hx).1
  have e : l.take (i + 1) = l.take i ++ [x] := by rw [List.take_add_one, hx]; rfl
  rw [e, List.drop_append_of_le_length (by rw [List.length_take]; omega)]
theorem wants_skip {ck dr i : Nat} {xs : List UInt8} (hd : ck + 4 ≤ dr) (h : ck ≤ i ∧ i < ck + 4 ∨ dr ≤ i ∧ i < dr + 8) : wants ck dr xs (i + 1) = wants ck dr xs i := by
  unfold wants
  rcases h with h | h
  · rw [show min (i + 1) ck = ck by omega, show min i ck = ck by omega, drop_nil (l := xs) (a := min (i + 1) dr) (b := ck + 4) (by omega), drop_nil (l := xs) (a := min i dr) (b := ck + 4) (by omega), drop_nil (l := xs) (a := i + 1) (b := dr + 8) (by omega), drop_nil (l := xs) (a := i) (b := dr + 8) (by omega)]
  · rw [show min (i + 1) ck = ck by omega, show min i ck = ck by omega, show min (i + 1) dr = dr by omega, show min i dr = dr by omega, drop_nil (l := xs) (a := i + 1) (b := dr + 8) (by omega), drop_nil (l := xs) (a := i) (b := dr + 8) (by omega)]
theorem wants_snoc {ck dr i : Nat} {xs : List UInt8} {x : UInt8} (hd : ck + 4 ≤ dr) (hx : xs[i]? = some x) (h : ¬ (ck ≤ i ∧ i < ck + 4 ∨ dr ≤ i ∧ i < dr + 8)) : wants ck dr xs (i + 1) = wants ck dr xs i ++ [x] := by
  unfold wants
  rcases Nat.lt_or_ge i ck with h1 | h1
  · have e : xs.take (i + 1) = xs.take i ++ [x] := by rw [List.take_add_one, hx]; rfl
    rw [show min (i + 1) ck = i + 1 by omega, show min i ck = i by omega, drop_nil (l := xs) (a := min (i + 1) dr) (b := ck + 4) (by omega), drop_nil (l := xs) (a := min i dr) (b := ck + 4) (by omega), drop_nil (l := xs) (a := i + 1) (b := dr + 8) (by omega), drop_nil (l := xs) (a := i) (b := dr + 8) (by omega), e]
    simp
  · rcases Nat.lt_or_ge i dr with h2 | h2
    · rw [show min (i + 1) ck = ck by omega, show min i ck = ck by omega, show min (i + 1) dr = i + 1 by omega, show min i dr = i by omega, drop_snoc hx (by omega), drop_nil (l := xs) (a := i + 1) (b := dr + 8) (by omega), drop_nil (l := xs) (a := i) (b := dr + 8) (by omega)]
      simp
    · rw [show min (i + 1) ck = ck by omega, show min i ck = ck by omega, show min (i + 1) dr = dr by omega, show min i dr = dr by omega, drop_snoc hx (by omega)]
      simp
/-- All that is wanted is what is hashed. -/
theorem wants_all {xs : List UInt8} (h : err xs = 0) : wants (opt xs + 64) (dirs xs + 32) xs (last xs) = hashed xs := by
  obtain ⟨h1, h2, h3, h4, h5⟩ := laid3 h
  rw [hashed_eq h]
  unfold wants hashed3 cutR
  rw [show min (last xs) (opt xs + 64) = opt xs + 64 by omega, show min (last xs) (dirs xs + 32) = dirs xs + 32 by omega, List.drop_take, List.drop_take]
  simp
end Pe
end Go.Proofs.YtmpladnglfiejaaGreatDoor
