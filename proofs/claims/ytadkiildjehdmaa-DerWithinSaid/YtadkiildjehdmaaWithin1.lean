/- Plain laws on what is right through and through. -/
import Derived.Test.YtadkiildjehdmaaChk
import Derived.Test.YtadkiildjehdmaaDepth
import Derived.Test.YtadkiildjehdmaaAll2
namespace Go.Proofs.Ytadkiildjehdmaa
open Go.RowKit
set_option maxRecDepth 100000
set_option linter.unusedSimpArgs false
namespace Der

theorem thr_range : ∀ (k : Nat) (t : UInt8) (b : List UInt8), thr k t b = 0 ∨ thr k t b = 9 ∨ thr k t b = 10
  | 0, t, b => by unfold thr; split <;> simp
  | k + 1, t, b => by
    have key : ∀ l : List (Option (UInt8 × List UInt8 × List UInt8)), firstBad (thr k) l = 0 ∨ firstBad (thr k) l = 9 ∨ firstBad (thr k) l = 10 := by
      intro l
      induction l with
      | nil => simp [firstBad]
      | cons x l ih =>
        match x with
        | none => simp [firstBad]
        | some (t', b', r') =>
          rw [firstBad]
          split
          · exact ih
          · exact thr_range k t' b'
    rw [thr]
    split
    · simp
    · split
      · simp
      · exact key _

theorem firstBad_mono {f g : UInt8 → List UInt8 → Nat} (h : ∀ t b, f t b = 0 → g t b = 0) : ∀ l : List (Option (UInt8 × List UInt8 × List UInt8)), firstBad f l = 0 → firstBad g l = 0
  | [], _ => rfl
  | none :: l, h0 => by simp [firstBad] at h0
  | some (t, b, r) :: l, h0 => by
    rw [firstBad] at h0 ⊢
    by_cases e : f t b = 0
    · rw [if_pos e] at h0
      rw [if_pos (h t b e)]
      exact firstBad_mono h l h0
    · rw [if_neg e] at h0; exact absurd h0 e
theorem thr_mono : ∀ (k : Nat) (t : UInt8) (b : List UInt8), thr k t b = 0 → thr (k + 1) t b = 0
  | 0, t, b, h => by
    have e : thr 1 t b = if leaf t b then 0 else if (seq b).any (·.isNone) then 9 else firstBad (thr 0) (seq b) := rfl
    rw [thr] at h
    show thr 1 t b = 0
    rw [e]
    split at h
    · rename_i hl; rw [if_pos hl]
    · cases h
  | k + 1, t, b, h => by
    rw [thr] at h ⊢
    by_cases hl : leaf t b = true
    · rw [if_pos hl]
    · rw [if_neg hl] at h ⊢
      by_cases ha : (seq b).any (·.isNone) = true
      · rw [if_pos ha] at h; cases h
      · rw [if_neg ha] at h ⊢
        exact firstBad_mono (fun t b => thr_mono k t b) _ h
theorem firstBad_all0 {f : UInt8 → List UInt8 → Nat} : ∀ {l : List (Option (UInt8 × List UInt8 × List UInt8))}, firstBad f l = 0 → ∀ t b r, some (t, b, r) ∈ l → f t b = 0
  | [], _, _, _, _, hm => by cases hm
  | none :: l, h0, _, _, _, _ => by simp [firstBad] at h0
  | some (t', b', r') :: l, h0, t, b, r, hm => by
    rw [firstBad] at h0
    by_cases e : f t' b' = 0
    · rw [if_pos e] at h0
      rcases List.mem_cons.1 hm with hm | hm
      · simp only [Option.some.injEq, Prod.mk.injEq] at hm
        obtain ⟨rfl, rfl, rfl⟩ := hm
        exact e
      · exact firstBad_all0 h0 t b r hm
    · rw [if_neg e] at h0; exact absurd h0 e

theorem lenOf_take {xs : List UInt8} {f n : Nat} (h : lenOf xs = some (f, n)) : lenOf (xs.take (f + n)) = some (f, n) := by
  have hbd := lenOf_bd h
  match xs, h with
  | [], h => cases h
  | [_], h => cases h
  | t :: l :: r, h =>
    obtain ⟨k, hk⟩ : ∃ k, f + n = k + 2 := ⟨f + n - 2, by omega⟩
    rw [hk, List.take_succ_cons, List.take_succ_cons]
    simp only [lenOf] at h ⊢
    by_cases h1 : l.toNat < 128
    · rw [if_pos h1] at h ⊢; exact h
    · rw [if_neg h1] at h ⊢
      by_cases h2 : l.toNat = 128 ∨ 132 < l.toNat ∨ r.length < l.toNat - 128 ∨ r.headD 0 = 0
      · rw [if_pos h2] at h; cases h
      · rw [if_neg h2] at h
        by_cases h3 : be (r.take (l.toNat - 128)) < 128
        · rw [if_pos h3] at h; cases h
        · rw [if_neg h3] at h
          have hf : f = 2 + (l.toNat - 128) := by
            simp only [Option.some.injEq, Prod.mk.injEq] at h; omega
          have ht : (r.take k).take (l.toNat - 128) = r.take (l.toNat - 128) := by rw [List.take_take, Nat.min_eq_left (by omega)]
          have hh : (r.take k).headD 0 = r.headD 0 := by
            cases r with
            | nil => simp
            | cons a r =>
              obtain ⟨j, rfl⟩ : ∃ j, k = j + 1 := ⟨k - 1, by omega⟩
              simp
          rw [ht, hh, if_neg (by
            intro h4
            apply h2
            rcases h4 with h4 | h4 | h4 | h4
            · exact .inl h4
            · exact .inr (.inl h4)
            · refine .inr (.inr (.inl ?_))
              rw [List.length_take] at h4
              omega
            · exact .inr (.inr (.inr h4))), if_neg h3]
          exact h
theorem elem_raw {xs : List UInt8} {t : UInt8} {body raw rest : List UInt8} (h : elem xs = some (t, body, raw, rest)) : elem raw = some (t, body, raw, []) := by
  unfold elem at h
  cases hh : hdr xs with
  | none => rw [hh] at h; cases h
  | some p =>
    obtain ⟨f, n⟩ := p
    rw [hh] at h
    simp only at h
    by_cases hn : n ≤ xs.length - f
    · rw [if_pos hn] at h
      simp only [Option.some.injEq, Prod.mk.injEq] at h
      obtain ⟨rfl, rfl, rfl, rfl⟩ := h
      unfold hdr at hh
      have ht : tagBad xs = false := by
        cases e : tagBad xs with
        | false => rfl
        | true => rw [e] at hh; cases hh
      rw [ht] at hh
      simp only [Bool.false_eq_true, if_false] at hh
      have hbd := lenOf_bd hh
      have hd : (xs.take (f + n)).headD 0 = xs.headD 0 := by
        cases xs with
        | nil => simp
        | cons a r =>
          obtain ⟨j, hj⟩ : ∃ j, f + n = j + 1 := ⟨f + n - 1, by omega⟩
          rw [hj]; simp
      have hl : (xs.take (f + n)).length = f + n := by rw [List.length_take]; omega
      unfold elem hdr
      have ht' : tagBad (xs.take (f + n)) = false := by unfold tagBad at ht ⊢; rw [hd]; exact ht
      rw [ht', lenOf_take hh]
      simp only [Bool.false_eq_true, if_false, hl, hd]
      rw [if_pos (by omega)]
      simp only [List.take_take, Nat.min_self, List.drop_take_self, Option.some.injEq, Prod.mk.injEq, true_and]
    · rw [if_neg hn] at h; cases h
theorem seqF_elem : ∀ (k : Nat) (xs : List UInt8) (t : UInt8) (b r : List UInt8), some (t, b, r) ∈ seqF k xs → elem r = some (t, b, r, [])
  | 0, _, _, _, _, h => by simp [seqF] at h
  | k + 1, xs, t, b, r, h => by
    rw [seqF] at h
    split at h
    · simp at h
    · split at h
      · simp at h
      · rename_i t' b' r' rest he
        rcases List.mem_cons.1 h with h | h
        · simp only [Option.some.injEq, Prod.mk.injEq] at h
          obtain ⟨rfl, rfl, rfl⟩ := h
          exact elem_raw he
        · exact seqF_elem k rest t b r h
theorem seq_check {xs : List UInt8} {t : UInt8} {b r : List UInt8} (h : some (t, b, r) ∈ seq xs) : check r = thr 15 t b := by
  rw [check, seqF_elem _ _ _ _ _ h]
  simp

/-- What Check says of the bytes in an element of their own. -/
theorem check_48 (xs : List UInt8) (hl : xs.length < 4294967296) : check (write 48 xs) = thr 15 48 xs := check_write 48 xs hl (by decide)
theorem within_none {xs : List UInt8} (hl : xs.length < 4294967296) (h : (seq xs).any (·.isNone) = true) : check (write 48 xs) = 9 := by
  rw [check_48 xs hl, thr]
  have : leaf 48 xs = false := by
    cases xs with
    | nil => simp [seq, seqF] at h
    | cons a r => simp [leaf]
  rw [this, if_neg (by simp), if_pos h]
theorem within_each {xs : List UInt8} (hl : xs.length < 4294967296) (h : check (write 48 xs) = 0) (t : UInt8) (b r : List UInt8) (hm : some (t, b, r) ∈ seq xs) : check r = 0 := by
  rw [check_48 xs hl, thr] at h
  have hne : leaf 48 xs = false := by
    cases xs with
    | nil => simp [seq, seqF] at hm
    | cons a r => simp [leaf]
  rw [hne, if_neg (by simp)] at h
  split at h
  · cases h
  · rw [seq_check hm]
    exact thr_mono 14 t b (firstBad_all0 h t b r hm)
theorem within_range (xs : List UInt8) (hl : xs.length < 4294967296) : check (write 48 xs) = 0 ∨ check (write 48 xs) = 9 ∨ check (write 48 xs) = 10 := by
  rw [check_48 xs hl]
  exact thr_range 15 48 xs
end Der
end Go.Proofs.Ytadkiildjehdmaa
