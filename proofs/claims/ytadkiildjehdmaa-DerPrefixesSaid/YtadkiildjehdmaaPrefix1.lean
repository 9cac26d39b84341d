/- Plain laws: what is an element stays the same one, whatever stands behind it; an element that is cut is none. -/
import Derived.Test.YtadkiildjehdmaaPlain1
import Derived.Test.YtadkiildjehdmaaEach
import Derived.Test.YtadkiildjehdmaaDer4
namespace Go.Proofs.Ytadkiildjehdmaa
namespace Der

theorem lenOf_more {xs : List UInt8} {f n : Nat} (h : lenOf xs = some (f, n)) (ys : List UInt8) : lenOf (xs ++ ys) = some (f, n) := by
  match xs, h with
  | [], h => cases h
  | [_], h => cases h
  | t :: l :: r, h =>
    simp only [List.cons_append, lenOf] at h ⊢
    by_cases h1 : l.toNat < 128
    · rw [if_pos h1] at h ⊢
      exact h
    · rw [if_neg h1] at h ⊢
      by_cases h2 : l.toNat = 128 ∨ 132 < l.toNat ∨ r.length < l.toNat - 128 ∨ r.headD 0 = 0
      · rw [if_pos h2] at h; cases h
      · rw [if_neg h2] at h
        have hl : ¬ r.length < l.toNat - 128 := fun e => h2 (.inr (.inr (.inl e)))
        have ht : (r ++ ys).take (l.toNat - 128) = r.take (l.toNat - 128) := by rw [List.take_append_of_le_length (by omega)]
        have hh : (r ++ ys).headD 0 = r.headD 0 := by
          cases r with
          | nil => exfalso; simp at hl; apply h2; left; omega
          | cons a r => rfl
        rw [ht, hh, List.length_append, if_neg (by
          rintro (e | e | e | e)
          · exact h2 (.inl e)
          · exact h2 (.inr (.inl e))
          · omega
          · exact h2 (.inr (.inr (.inr e))))]
        exact h

theorem hdr_more {xs : List UInt8} {f n : Nat} (h : hdr xs = some (f, n)) (ys : List UInt8) : hdr (xs ++ ys) = some (f, n) := by
  unfold hdr at h ⊢
  have hx : xs ≠ [] := by
    rintro rfl
    simp [lenOf] at h
  have ht : tagBad (xs ++ ys) = tagBad xs := by
    cases xs with
    | nil => exact absurd rfl hx
    | cons a r => rfl
  rw [ht]
  split at h
  · cases h
  · rename_i hb
    rw [if_neg hb]
    exact lenOf_more h ys

theorem elem_more {xs : List UInt8} {t : UInt8} {body raw rest : List UInt8} (h : elem xs = some (t, body, raw, rest)) (ys : List UInt8) : elem (xs ++ ys) = some (t, body, raw, rest ++ ys) := by
  unfold elem at h ⊢
  split at h
  · rename_i f n hd
    rw [hdr_more hd ys]
    split at h
    · rename_i hn
      have hb := lenOf_bd (hdr_len hd)
      simp only [Option.some.injEq, Prod.mk.injEq] at h
      obtain ⟨rfl, rfl, rfl, rfl⟩ := h
      have ht : (xs ++ ys).take (f + n) = xs.take (f + n) := by rw [List.take_append_of_le_length (by omega)]
      have hq : (xs ++ ys).drop (f + n) = xs.drop (f + n) ++ ys := by rw [List.drop_append_of_le_length (by omega)]
      have hh : (xs ++ ys).headD 0 = xs.headD 0 := by
        cases xs with
        | nil => simp at hb; omega
        | cons a r => rfl
      simp only [ht, hq, hh]
      rw [List.length_append, if_pos (by omega)]
    · cases h
  · cases h

/-- An element that is cut is none. -/
theorem elem_cut (t : UInt8) (b : List UInt8) (hb : b.length < 4294967296) (k : Nat) (hk : k < (write t b).length) : elem ((write t b).take k) = none := by
  cases he : elem ((write t b).take k) with
  | none => rfl
  | some x =>
    exfalso
    obtain ⟨t', b', r', rest'⟩ := x
    have h1 := elem_more he ((write t b).drop k)
    rw [List.take_append_drop, elem_write' t b hb] at h1
    have h2 := elem_len he
    split at h1
    · cases h1
    · simp only [Option.some.injEq, Prod.mk.injEq] at h1
      have h3 := h2.2.1
      rw [← h1.2.2.1, List.length_take] at h3
      omega

theorem seq_cut (t : UInt8) (b : List UInt8) (hb : b.length < 4294967296) (k : Nat) (hk0 : 0 < k) (hk : k < (write t b).length) : seq ((write t b).take k) = [none] :=
  seq_none (by intro e; have := congrArg List.length e; rw [List.length_take, List.length_nil] at this; omega) (elem_cut t b hb k hk)
end Der
end Go.Proofs.Ytadkiildjehdmaa
