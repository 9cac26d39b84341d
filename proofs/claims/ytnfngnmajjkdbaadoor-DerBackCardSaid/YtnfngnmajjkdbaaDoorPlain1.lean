/- Plain laws of what der reads and writes: what Write writes is an element, whatever stands behind it. -/
import Derived.Test.YtnfngnmajjkdbaaDoorDerSpec
import Derived.Test.YtnfngnmajjkdbaaDoorDerSpec2
import Derived.Test.YtnfngnmajjkdbaaDoorNum
namespace Go.Proofs.YtnfngnmajjkdbaaDoor
namespace Der

theorem be_leB : ∀ (k n : Nat), n ≤ k → be (leB n).reverse = n
  | 0, n, h => by
    obtain rfl : n = 0 := by omega
    rw [leB_zero]; rfl
  | k + 1, n, h => by
    rcases Nat.eq_zero_or_pos n with h0 | h0
    · subst h0; rw [leB_zero]; rfl
    · rw [leB_pos h0, List.reverse_cons, be_snoc, be_leB k (n / 256) (by omega), UInt8.toNat_ofNat']
      omega
theorem leB_last : ∀ (k n : Nat), n ≤ k → 0 < n → (leB n).reverse.headD 0 ≠ 0
  | 0, n, h, h0 => by omega
  | k + 1, n, h, h0 => by
    rw [leB_pos h0, List.reverse_cons]
    by_cases hz : n / 256 = 0
    · rw [hz, leB_zero]
      simp only [List.reverse_nil, List.nil_append, List.headD_cons]
      intro e
      have := congrArg UInt8.toNat e
      rw [UInt8.toNat_ofNat'] at this
      simp at this
      omega
    · have ih := leB_last k (n / 256) (by omega) (by omega)
      cases hr : (leB (n / 256)).reverse with
      | nil => rw [hr] at ih; exact absurd rfl ih
      | cons a r => rw [hr] at ih; simpa using ih
theorem leB_len {n : Nat} (h : 0 < n) : 0 < (leB n).length := by rw [leB_pos h]; simp

theorem lenOf_write (t : UInt8) (n : Nat) (tail : List UInt8) (hn : n < 4294967296) : lenOf (t :: lenB n ++ tail) = some (1 + (lenB n).length, n) := by
  by_cases h : n < 128
  · simp only [lenB, if_pos h, List.cons_append, List.nil_append, lenOf, UInt8.toNat_ofNat']
    rw [if_pos (by omega)]
    simp only [Option.some.injEq, Prod.mk.injEq, List.length_cons, List.length_nil, true_and]
    omega
  · have hm := leB_le 4 n (by omega)
    have hp := leB_len (n := n) (by omega)
    have hb := be_leB n n (Nat.le_refl _)
    have hz := leB_last n n (Nat.le_refl _) (by omega)
    have hlr : (leB n).reverse.length = (leB n).length := List.length_reverse
    simp only [lenB, if_neg h, List.cons_append, lenOf, UInt8.toNat_ofNat']
    have e1 : (128 + (leB n).length) % 2 ^ 8 = 128 + (leB n).length := by omega
    rw [e1, if_neg (by omega), Nat.add_sub_cancel_left]
    have htake : ((leB n).reverse ++ tail).take (leB n).length = (leB n).reverse := by rw [← hlr, List.take_left]
    rw [htake, hb, if_neg (by
      rintro (h1 | h1 | h1 | h1)
      · omega
      · omega
      · rw [List.length_append] at h1; omega
      · cases hr : (leB n).reverse with
        | nil => rw [hr] at hlr; simp at hlr; omega
        | cons a r => rw [hr] at hz h1; exact hz h1), if_neg (by omega)]
    simp only [Option.some.injEq, Prod.mk.injEq, List.length_cons, hlr, and_true]
    omega
theorem lenB_len (n : Nat) (hn : n < 4294967296) : (lenB n).length ≤ 5 := by
  unfold lenB
  split
  · simp
  · have := leB_le 4 n (by omega)
    simp; omega
theorem write_len (t : UInt8) (body : List UInt8) : (write t body).length = 1 + (lenB body.length).length + body.length := by simp [write]; omega

/-- What Write writes is an element, whatever stands behind it. -/
theorem elem_write (t : UInt8) (body more : List UInt8) (hn : body.length < 4294967296) : elem (write t body ++ more) = if t.toNat % 32 = 31 then none else some (t, body, write t body, more) := by
  have hw : write t body ++ more = t :: lenB body.length ++ (body ++ more) := by simp [write]
  have hl := lenOf_write t body.length (body ++ more) hn
  unfold elem hdr tagBad
  rw [hw, hl]
  simp only [List.cons_append, List.headD_cons, beq_iff_eq]
  by_cases ht : t.toNat % 32 = 31
  · simp [ht]
  · rw [if_neg ht, if_neg ht]
    simp only [List.length_cons, List.length_append]
    rw [if_pos (by omega)]
    have hx : t :: (lenB body.length ++ (body ++ more)) = write t body ++ more := by simp [write]
    have hwl := write_len t body
    rw [hx, show 1 + (lenB body.length).length + body.length = (write t body).length from hwl.symm]
    simp only [List.take_left, List.drop_left, Option.some.injEq, Prod.mk.injEq, true_and, and_true]
    have h2 : write t body = (t :: lenB body.length) ++ body := by simp [write]
    rw [h2]
    rw [List.drop_left' (by simp; omega)]
theorem elem_write' (t : UInt8) (body : List UInt8) (hn : body.length < 4294967296) : elem (write t body) = if t.toNat % 32 = 31 then none else some (t, body, write t body, []) := by
  have := elem_write t body [] hn
  rwa [List.append_nil] at this
end Der
end Go.Proofs.YtnfngnmajjkdbaaDoor
