/- What is read as an element, or as an identifier, is what would be written. Plain Lean. -/
import Derived.Test.YtnfngnmajjkdbaaDoorPlain1
import Derived.Test.YtnfngnmajjkdbaaDoorPut2
import Derived.Test.YtnfngnmajjkdbaaDoorOid
import Derived.Test.YtnfngnmajjkdbaaDoorDer4
namespace Go.Proofs.YtnfngnmajjkdbaaDoor
set_option maxRecDepth 100000
namespace Der
theorem be_pos : ∀ (s : List UInt8), s.headD 0 ≠ 0 → 0 < be s
  | [], h => absurd rfl h
  | x :: r, h => by
    have key : ∀ (r : List UInt8) (a : Nat), 0 < a → 0 < r.foldl (fun a x => a * 256 + x.toNat) a := by
      intro r
      induction r with
      | nil => intro a h; exact h
      | cons y r ih => intro a h; exact ih (a * 256 + y.toNat) (by omega)
    have hx : 0 < x.toNat := by
      rcases Nat.eq_zero_or_pos x.toNat with h0 | h0
      · exact absurd (UInt8.toNat_inj.1 (by simpa using h0)) h
      · exact h0
    show 0 < r.foldl (fun a x => a * 256 + x.toNat) (0 * 256 + x.toNat)
    exact key r _ (by omega)
theorem leB_be (s : List UInt8) (h : s = [] ∨ s.headD 0 ≠ 0) : (leB (be s)).reverse = s := by
  have key : ∀ (r : List UInt8), (r.reverse = [] ∨ r.reverse.headD 0 ≠ 0) → leB (be r.reverse) = r := by
    intro r
    induction r with
    | nil => intro _; simp [be_nil, leB_zero]
    | cons x r ih =>
      intro h
      rw [List.reverse_cons] at h ⊢
      have hx := x.toNat_lt
      have hp : 0 < be (r.reverse ++ [x]) := by
        rcases h with h | h
        · simp at h
        · exact be_pos _ h
      rw [leB_pos hp, be_snoc]
      have h2 : (be r.reverse * 256 + x.toNat) / 256 = be r.reverse := by omega
      have h3 : UInt8.ofNat (be r.reverse * 256 + x.toNat) = x := by
        apply UInt8.toNat_inj.1
        rw [UInt8.toNat_ofNat']
        omega
      rw [h2, h3, ih]
      rcases h with h | h
      · simp at h
      · by_cases hr : r.reverse = []
        · exact .inl hr
        · right
          match hrr : r.reverse, hr with
          | y :: q, _ => rw [hrr] at h; exact h
  have := key s.reverse (by rwa [List.reverse_reverse])
  rw [List.reverse_reverse] at this
  rw [this, List.reverse_reverse]
theorem lenOf_inv {xs : List UInt8} {f n : Nat} (h : lenOf xs = some (f, n)) : xs.take f = xs.headD 0 :: lenB n := by
  match xs, h with
  | [], h => cases h
  | [_], h => cases h
  | t :: l :: r, h =>
    have hl := l.toNat_lt
    simp only [lenOf] at h
    by_cases h1 : l.toNat < 128
    · rw [if_pos h1] at h
      simp only [Option.some.injEq, Prod.mk.injEq] at h
      obtain ⟨rfl, rfl⟩ := h
      rw [lenB, if_pos h1]
      simp
    · rw [if_neg h1] at h
      by_cases h2 : l.toNat = 128 ∨ 132 < l.toNat ∨ r.length < l.toNat - 128 ∨ r.headD 0 = 0
      · rw [if_pos h2] at h; cases h
      · rw [if_neg h2] at h
        by_cases h3 : be (r.take (l.toNat - 128)) < 128
        · rw [if_pos h3] at h; cases h
        · rw [if_neg h3] at h
          simp only [Option.some.injEq, Prod.mk.injEq] at h
          obtain ⟨rfl, rfl⟩ := h
          have hh : (r.take (l.toNat - 128)).headD 0 ≠ 0 := by
            match r, h2 with
            | [], h2 => simp at h2
            | y :: r, h2 =>
              have : l.toNat - 128 = (l.toNat - 129) + 1 := by omega
              rw [this, List.take_succ_cons]
              simp only [List.headD_cons] at h2 ⊢
              intro e; apply h2; right; right; right; exact e
          have hlb := leB_be _ (.inr hh)
          have hll : (leB (be (r.take (l.toNat - 128)))).length = l.toNat - 128 := by
            have := congrArg List.length hlb
            simp only [List.length_reverse, List.length_take] at this
            omega
          rw [lenB, if_neg h3, hlb, hll, show 2 + (l.toNat - 128) = (l.toNat - 128) + 1 + 1 by omega, List.take_succ_cons, List.take_succ_cons]
          congr 2
          apply UInt8.toNat_inj.1
          rw [UInt8.toNat_ofNat']
          omega
/-- An element that is read has the bytes that would be written. -/
theorem elem_inv {xs : List UInt8} {t : UInt8} {b r rest : List UInt8} (h : elem xs = some (t, b, r, rest)) : r = write t b ∧ xs = write t b ++ rest ∧ t.toNat % 32 ≠ 31 ∧ b.length < 4294967296 := by
  have hl := elem_len h
  unfold elem at h
  cases hh : hdr xs with
  | none => rw [hh] at h; cases h
  | some p =>
    obtain ⟨f, n⟩ := p
    rw [hh] at h
    simp only at h
    split at h
    · rename_i hn
      have hlo : lenOf xs = some (f, n) ∧ tagBad xs = false := by
        unfold hdr at hh
        split at hh
        · cases hh
        · rename_i ht
          exact ⟨hh, by simpa using ht⟩
      have hbd := lenOf_bd hlo.1
      simp only [Option.some.injEq, Prod.mk.injEq] at h
      obtain ⟨rfl, rfl, rfl, rfl⟩ := h
      have hbl : ((xs.take (f + n)).drop f).length = n := by simp; omega
      have hw : xs.take (f + n) = write (xs.headD 0) ((xs.take (f + n)).drop f) := by
        unfold write
        rw [hbl, ← lenOf_inv hlo.1]
        have := List.take_append_drop f (xs.take (f + n))
        rw [List.take_take, Nat.min_eq_left (by omega)] at this
        exact this.symm
      refine ⟨hw, ?_, ?_, by omega⟩
      · rw [← hw, List.take_append_drop]
      · have := hlo.2
        unfold tagBad at this
        simpa using this
    · cases h
/-- What a row of numbers was read of. -/
def pend (n : Nat) : List UInt8 := (sevT n).reverse
theorem pend_snoc {n : Nat} {c : UInt8} (hc : 128 ≤ c.toNat) (h : n ≠ 0 ∨ c.toNat ≠ 128) : pend (n * 128 + c.toNat % 128) = pend n ++ [c] := by
  have hl := c.toNat_lt
  unfold pend
  rw [sevT_pos (by omega), List.reverse_cons, show (n * 128 + c.toNat % 128) / 128 = n by omega]
  congr 2
  apply UInt8.toNat_inj.1
  rw [UInt8.toNat_ofNat']
  omega
theorem sev_snoc {n : Nat} {c : UInt8} (hc : c.toNat < 128) : sev (n * 128 + c.toNat % 128) = pend n ++ [c] := by
  unfold sev sevL pend
  rw [List.reverse_cons, show (n * 128 + c.toNat % 128) / 128 = n by omega]
  congr 2
  apply UInt8.toNat_inj.1
  rw [UInt8.toNat_ofNat']
  omega
def OidInv (s : OidS) (p : List UInt8) : Prop := (s.begun = true ↔ s.n ≠ 0) ∧
  ((s.arcs = [] ∧ p = pend s.n) ∨ ∃ a b l, s.arcs = a :: b :: l ∧ putOk a b = true ∧ p = sev (40 * a + b) ++ sevs l ++ pend s.n)
theorem pend_zero : pend 0 = [] := by unfold pend; rw [sevT_zero]; rfl
theorem oidInv_step {s s' : OidS} {p : List UInt8} {c : UInt8} (hi : OidInv s p) (h : oidStep s c = some s') : OidInv s' (p ++ [c]) := by
  obtain ⟨arcs, n, begun⟩ := s
  obtain ⟨hb, hi⟩ := hi
  simp only at hb hi
  unfold oidStep at h
  simp only at h
  by_cases h0 : 144115188075855872 ≤ n ∨ (begun = false ∧ c.toNat = 128)
  · rw [if_pos h0] at h; cases h
  rw [if_neg h0] at h
  have hn : n ≠ 0 ∨ c.toNat ≠ 128 := by
    by_cases hz : n = 0
    · right
      intro e
      apply h0
      right
      refine ⟨?_, e⟩
      cases hbb : begun with
      | false => rfl
      | true => exact absurd hz (hb.1 hbb)
    · exact .inl hz
  by_cases h1 : 128 ≤ c.toNat
  · rw [if_pos h1] at h
    injection h with h
    subst h
    refine ⟨⟨fun _ => ?_, fun _ => rfl⟩, ?_⟩
    · have := c.toNat_lt
      simp only
      omega
    · simp only
      rcases hi with ⟨e1, e2⟩ | ⟨a, b, l, e1, e2, e3⟩
      · left
        exact ⟨e1, by rw [pend_snoc h1 hn, e2]⟩
      · right
        exact ⟨a, b, l, e1, e2, by rw [pend_snoc h1 hn, e3]; simp⟩
  · rw [if_neg h1] at h
    have hs : sev (n * 128 + c.toNat % 128) = pend n ++ [c] := sev_snoc (by omega)
    by_cases h2 : arcs = []
    · rw [if_pos h2] at h
      injection h with h
      subst h
      refine ⟨by simp, ?_⟩
      rcases hi with ⟨_, e2⟩ | ⟨a, b, l, e1, _, _⟩
      · right
        refine ⟨_, _, [], rfl, ?_, ?_⟩
        · unfold putOk
          simp only [Bool.and_eq_true, Bool.or_eq_true, decide_eq_true_eq]
          omega
        · simp only
          rw [show 40 * min ((n * 128 + c.toNat % 128) / 40) 2 + (n * 128 + c.toNat % 128 - 40 * min ((n * 128 + c.toNat % 128) / 40) 2) = n * 128 + c.toNat % 128 by omega, hs, e2, pend_zero]
          simp [sevs]
      · rw [e1] at h2; cases h2
    · rw [if_neg h2] at h
      injection h with h
      subst h
      refine ⟨by simp, ?_⟩
      rcases hi with ⟨e1, _⟩ | ⟨a, b, l, e1, e2, e3⟩
      · exact absurd e1 h2
      · right
        refine ⟨a, b, l ++ [n * 128 + c.toNat % 128], by rw [e1]; rfl, e2, ?_⟩
        simp only
        rw [e3, pend_zero]
        simp [sevs, hs]
theorem oidInv_from : ∀ (xs : List UInt8) (s s' : OidS) (p : List UInt8), OidInv s p → oidFrom s xs = some s' → OidInv s' (p ++ xs)
  | [], s, s', p, hi, h => by
    rw [oidFrom] at h
    injection h with h
    subst h
    rwa [List.append_nil]
  | c :: r, s, s', p, hi, h => by
    rw [oidFrom] at h
    cases hst : oidStep s c with
    | none => rw [hst] at h; cases h
    | some s1 =>
      rw [hst] at h
      have := oidInv_from r s1 s' (p ++ [c]) (oidInv_step hi hst) h
      rwa [List.append_assoc] at this
theorem oid_put {xs : List UInt8} {l : List Nat} (h : oid xs = some l) : putOid l = xs := by
  unfold oid at h
  cases hf : oidFrom ⟨[], 0, false⟩ xs with
  | none => rw [hf] at h; cases h
  | some s =>
    rw [hf] at h
    simp only at h
    split at h
    · cases h
    · rename_i hc
      injection h with h
      have hi := oidInv_from xs _ s [] ⟨by simp, .inl ⟨rfl, by simp [pend_zero]⟩⟩ hf
      obtain ⟨hb, hi⟩ := hi
      rw [List.nil_append] at hi
      have hn : s.n = 0 := by
        rcases Nat.eq_zero_or_pos s.n with h0 | h0
        · exact h0
        · exact absurd (.inl (hb.2 (by omega))) hc
      rcases hi with ⟨e1, _⟩ | ⟨a, b, t, e1, e2, e3⟩
      · exact absurd (.inr e1) hc
      · rw [← h, e1, putOid, if_pos e2, e3, hn, pend_zero, List.append_nil]
end Der
end Go.Proofs.YtnfngnmajjkdbaaDoor
