/- Joined of: PutSpec Plain2 Plain3 Plain4 Ref1 Ref2 Open. -/
import Derived.Test.YtmnekhliblkibaaGA
import Derived.Test.YtmnekhliblkibaaGC
import Derived.Test.YtmnekhliblkibaaGB
import Derived.Test.YtmnekhliblkibaaGL
import Derived.Test.YtmnekhliblkibaaGK
import Derived.Test.YtmnekhliblkibaaProg
import Derived.BigQuiet
import Derived.Deep.QuietTactic
import Derived.BigRegion
import Derived.Deep.RegionHeld3
import Derived.ProofKit
import Derived.OpenShut
import Derived.KernelRfl
section
/- The bytes of an identifier, in plain Lean (as in Put1 and Put2 of the DER seat; never imported beside them). -/
namespace Go.Proofs.Ytmnekhliblkibaa
namespace Der
/-- A number's bytes, 7 bits a byte, the lowest first, all with the bit 80. -/
def sevT (n : Nat) : List UInt8 := if n = 0 then [] else UInt8.ofNat (128 + n % 128) :: sevT (n / 128)
termination_by n
decreasing_by omega
theorem sevT_zero : sevT 0 = [] := by rw [sevT]; rfl
theorem sevT_pos {n : Nat} (h : 0 < n) : sevT n = UInt8.ofNat (128 + n % 128) :: sevT (n / 128) := by rw [sevT, if_neg (by omega)]
def sevL (n : Nat) : List UInt8 := UInt8.ofNat (n % 128) :: sevT (n / 128)
def sev (n : Nat) : List UInt8 := (sevL n).reverse
def putOk (a b : Nat) : Bool := decide (a ≤ 2) && (decide (2 ≤ a) || decide (b ≤ 39)) && decide (b ≤ 18446744073709551535)
def sevs (l : List Nat) : List UInt8 := l.flatMap sev
def putOid : List Nat → List UInt8
  | a :: b :: r => if putOk a b then sev (40 * a + b) ++ sevs r else []
  | _ => []
end Der
end Go.Proofs.Ytmnekhliblkibaa
end

section
/- What is read as an element, or as an identifier, is what would be written. Plain Lean. -/
namespace Go.Proofs.Ytmnekhliblkibaa
set_option maxRecDepth 100000
namespace Der
theorem be_pos : ∀ (s : List UInt8), s.headD 0 ≠ 0 → 0 < be s
  | [], h => absurd rfl h
  | x :: r, h => by
    have key : ∀ (r : List UInt8) (a : Nat), 0 < a → 0 < r.foldl (fun a x => a * 256 + x.toNat) a := by
      intro r
      induction r with
      | nil => intro a h; exact h
      | cons y r ih => intro a h; exact ih (a * 256 + y.toNat) (by omega)
    have hx : 0 < x.toNat := by
      rcases Nat.eq_zero_or_pos x.toNat with h0 | h0
      · exact absurd (UInt8.toNat_inj.1 (by simpa using h0)) h
      · exact h0
    show 0 < r.foldl (fun a x => a * 256 + x.toNat) (0 * 256 + x.toNat)
    exact key r _ (by omega)
theorem leB_be (s : List UInt8) (h : s = [] ∨ s.headD 0 ≠ 0) : (leB (be s)).reverse = s := by
  have key : ∀ (r : List UInt8), (r.reverse = [] ∨ r.reverse.headD 0 ≠ 0) → leB (be r.reverse) = r := by
    intro r
    induction r with
    | nil => intro _; simp [be_nil, leB_zero]
    | cons x r ih =>
      intro h
      rw [List.reverse_cons] at h ⊢
      have hx := x.toNat_lt
      have hp : 0 < be (r.reverse ++ [x]) := by
        rcases h with h | h
        · simp at h
        · exact be_pos _ h
      rw [leB_pos hp, be_snoc]
      have h2 : (be r.reverse * 256 + x.toNat) / 256 = be r.reverse := by omega
      have h3 : UInt8.ofNat (be r.reverse * 256 + x.toNat) = x := by
        apply UInt8.toNat_inj.1
        rw [UInt8.toNat_ofNat']
        omega
      rw [h2, h3, ih]
      rcases h with h | h
      · simp at h
      · by_cases hr : r.reverse = []
        · exact .inl hr
        · right
          match hrr : r.reverse, hr with
          | y :: q, _ => rw [hrr] at h; exact h
  have := key s.reverse (by rwa [List.reverse_reverse])
  rw [List.reverse_reverse] at this
  rw [this, List.reverse_reverse]
theorem lenOf_inv {xs : List UInt8} {f n : Nat} (h : lenOf xs = some (f, n)) : xs.take f = xs.headD 0 :: lenB n := by
  match xs, h with
  | [], h => cases h
  | [_], h => cases h
  | t :: l :: r, h =>
    have hl := l.toNat_lt
    simp only [lenOf] at h
    by_cases h1 : l.toNat < 128
    · rw [if_pos h1] at h
      simp only [Option.some.injEq, Prod.mk.injEq] at h
      obtain ⟨rfl, rfl⟩ := h
      rw [lenB, if_pos h1]
      simp
    · rw [if_neg h1] at h
      by_cases h2 : l.toNat = 128 ∨ 132 < l.toNat ∨ r.length < l.toNat - 128 ∨ r.headD 0 = 0
      · rw [if_pos h2] at h; cases h
      · rw [if_neg h2] at h
        by_cases h3 : be (r.take (l.toNat - 128)) < 128
        · rw [if_pos h3] at h; cases h
        · rw [if_neg h3] at h
          simp only [Option.some.injEq, Prod.mk.injEq] at h
          obtain ⟨rfl, rfl⟩ := h
          have hh : (r.take (l.toNat - 128)).headD 0 ≠ 0 := by
            match r, h2 with
            | [], h2 => simp at h2
            | y :: r, h2 =>
              have : l.toNat - 128 = (l.toNat - 129) + 1 := by omega
              rw [this, List.take_succ_cons]
              simp only [List.headD_cons] at h2 ⊢
              intro e; apply h2; right; right; right; exact e
          have hlb := leB_be _ (.inr hh)
          have hll : (leB (be (r.take (l.toNat - 128)))).length = l.toNat - 128 := by
            have := congrArg List.length hlb
            simp only [List.length_reverse, List.length_take] at this
            omega
          rw [lenB, if_neg h3, hlb, hll, show 2 + (l.toNat - 128) = (l.toNat - 128) + 1 + 1 by omega, List.take_succ_cons, List.take_succ_cons]
          congr 2
          apply UInt8.toNat_inj.1
          rw [UInt8.toNat_ofNat']
          omega
/-- An element that is read has the bytes that would be written. -/
theorem elem_inv {xs : List UInt8} {t : UInt8} {b r rest : List UInt8} (h : elem xs = some (t, b, r, rest)) : r = write t b ∧ xs = write t b ++ rest ∧ t.toNat % 32 ≠ 31 ∧ b.length < 4294967296 := by
  have hl := elem_len h
  unfold elem at h
  cases hh : hdr xs with
  | none => rw [hh] at h; cases h
  | some p =>
    obtain ⟨f, n⟩ := p
    rw [hh] at h
    simp only at h
    split at h
    · rename_i hn
      have hlo : lenOf xs = some (f, n) ∧ tagBad xs = false := by
        unfold hdr at hh
        split at hh
        · cases hh
        · rename_i ht
          exact ⟨hh, by simpa using ht⟩
      have hbd := lenOf_bd hlo.1
      simp only [Option.some.injEq, Prod.mk.injEq] at h
      obtain ⟨rfl, rfl, rfl, rfl⟩ := h
      have hbl : ((xs.take (f + n)).drop f).length = n := by simp; omega
      have hw : xs.take (f + n) = write (xs.headD 0) ((xs.take (f + n)).drop f) := by
        unfold write
        rw [hbl, ← lenOf_inv hlo.1]
        have := List.take_append_drop f (xs.take (f + n))
        rw [List.take_take, Nat.min_eq_left (by omega)] at this
        exact this.symm
      refine ⟨hw, ?_, ?_, by omega⟩
      · rw [← hw, List.take_append_drop]
      · have := hlo.2
        unfold tagBad at this
        simpa using this
    · cases h
/-- What a row of numbers was read of. -/
def pend (n : Nat) : List UInt8 := (sevT n).reverse
theorem pend_snoc {n : Nat} {c : UInt8} (hc : 128 ≤ c.toNat) (h : n ≠ 0 ∨ c.toNat ≠ 128) : pend (n * 128 + c.toNat % 128) = pend n ++ [c] := by
  have hl := c.toNat_lt
  unfold pend
  rw [sevT_pos (by omega), List.reverse_cons, show (n * 128 + c.toNat % 128) / 128 = n by omega]
  congr 2
  apply UInt8.toNat_inj.1
  rw [UInt8.toNat_ofNat']
  omega
theorem sev_snoc {n : Nat} {c : UInt8} (hc : c.toNat < 128) : sev (n * 128 + c.toNat % 128) = pend n ++ [c] := by
  unfold sev sevL pend
  rw [List.reverse_cons, show (n * 128 + c.toNat % 128) / 128 = n by omega]
  congr 2
  apply UInt8.toNat_inj.1
  rw [UInt8.toNat_ofNat']
  omega
def OidInv (s : OidS) (p : List UInt8) : Prop := (s.begun = true ↔ s.n ≠ 0) ∧
  ((s.arcs = [] ∧ p = pend s.n) ∨ ∃ a b l, s.arcs = a :: b :: l ∧ putOk a b = true ∧ p = sev (40 * a + b) ++ sevs l ++ pend s.n)
theorem pend_zero : pend 0 = [] := by unfold pend; rw [sevT_zero]; rfl
theorem oidInv_step {s s' : OidS} {p : List UInt8} {c : UInt8} (hi : OidInv s p) (h : oidStep s c = some s') : OidInv s' (p ++ [c]) := by
  obtain ⟨arcs, n, begun⟩ := s
  obtain ⟨hb, hi⟩ := hi
  simp only at hb hi
  unfold oidStep at h
  simp only at h
  by_cases h0 : 144115188075855872 ≤ n ∨ (begun = false ∧ c.toNat = 128)
  · rw [if_pos h0] at h; cases h
  rw [if_neg h0] at h
  have hn : n ≠ 0 ∨ c.toNat ≠ 128 := by
    by_cases hz : n = 0
    · right
      intro e
      apply h0
      right
      refine ⟨?_, e⟩
      cases hbb : begun with
      | false => rfl
      | true => exact absurd hz (hb.1 hbb)
    · exact .inl hz
  by_cases h1 : 128 ≤ c.toNat
  · rw [if_pos h1] at h
    injection h with h
    subst h
    refine ⟨⟨fun _ => ?_, fun _ => rfl⟩, ?_⟩
    · have := c.toNat_lt
      simp only
      omega
    · simp only
      rcases hi with ⟨e1, e2⟩ | ⟨a, b, l, e1, e2, e3⟩
      · left
        exact ⟨e1, by rw [pend_snoc h1 hn, e2]⟩
      · right
        exact ⟨a, b, l, e1, e2, by rw [pend_snoc h1 hn, e3]; simp⟩
  · rw [if_neg h1] at h
    have hs : sev (n * 128 + c.toNat % 128) = pend n ++ [c] := sev_snoc (by omega)
    by_cases h2 : arcs = []
    · rw [if_pos h2] at h
      injection h with h
      subst h
      refine ⟨by simp, ?_⟩
      rcases hi with ⟨_, e2⟩ | ⟨a, b, l, e1, _, _⟩
      · right
        refine ⟨_, _, [], rfl, ?_, ?_⟩
        · unfold putOk
          simp only [Bool.and_eq_true, Bool.or_eq_true, decide_eq_true_eq]
          omega
        · simp only
          rw [show 40 * min ((n * 128 + c.toNat % 128) / 40) 2 + (n * 128 + c.toNat % 128 - 40 * min ((n * 128 + c.toNat % 128) / 40) 2) = n * 128 + c.toNat % 128 by omega, hs, e2, pend_zero]
          simp [sevs]
      · rw [e1] at h2; cases h2
    · rw [if_neg h2] at h
      injection h with h
      subst h
      refine ⟨by simp, ?_⟩
      rcases hi with ⟨e1, _⟩ | ⟨a, b, l, e1, e2, e3⟩
      · exact absurd e1 h2
      · right
        refine ⟨a, b, l ++ [n * 128 + c.toNat % 128], by rw [e1]; rfl, e2, ?_⟩
        simp only
        rw [e3, pend_zero]
        simp [sevs, hs]
theorem oidInv_from : ∀ (xs : List UInt8) (s s' : OidS) (p : List UInt8), OidInv s p → oidFrom s xs = some s' → OidInv s' (p ++ xs)
  | [], s, s', p, hi, h => by
    rw [oidFrom] at h
    injection h with h
    subst h
    rwa [List.append_nil]
  | c :: r, s, s', p, hi, h => by
    rw [oidFrom] at h
    cases hst : oidStep s c with
    | none => rw [hst] at h; cases h
    | some s1 =>
      rw [hst] at h
      have := oidInv_from r s1 s' (p ++ [c]) (oidInv_step hi hst) h
      rwa [List.append_assoc] at this
theorem oid_put {xs : List UInt8} {l : List Nat} (h : oid xs = some l) : putOid l = xs := by
  unfold oid at h
  cases hf : oidFrom ⟨[], 0, false⟩ xs with
  | none => rw [hf] at h; cases h
  | some s =>
    rw [hf] at h
    simp only at h
    split at h
    · cases h
    · rename_i hc
      injection h with h
      have hi := oidInv_from xs _ s [] ⟨by simp, .inl ⟨rfl, by simp [pend_zero]⟩⟩ hf
      obtain ⟨hb, hi⟩ := hi
      rw [List.nil_append] at hi
      have hn : s.n = 0 := by
        rcases Nat.eq_zero_or_pos s.n with h0 | h0
        · exact h0
        · exact absurd (.inl (hb.2 (by omega))) hc
      rcases hi with ⟨e1, _⟩ | ⟨a, b, t, e1, e2, e3⟩
      · exact absurd (.inr e1) hc
      · rw [← h, e1, putOid, if_pos e2, e3, hn, pend_zero, List.append_nil]
end Der
end Go.Proofs.Ytmnekhliblkibaa
end

section
/- What Cert.parse tells of bytes, in plain Lean: the bytes are those that would be written; the limits. -/
namespace Go.Proofs.Ytmnekhliblkibaa
open Go.RowKit
set_option maxRecDepth 100000

theorem must_inv {b : Bool} {u : Unit} (h : Cert.must b = some u) : b = true := by
  unfold Cert.must at h
  split at h
  · assumption
  · cases h
theorem binv {α β : Type} {o : Option α} {f : α → Option β} {b : β} (h : o.bind f = some b) : ∃ a, o = some a ∧ f a = some b := Option.bind_eq_some_iff.1 h
/-- An element as it would be written. -/
def El.wf (x : El) : Prop := x.2.2 = Der.write x.1 x.2.1 ∧ x.1.toNat % 32 ≠ 31 ∧ x.2.1.length < 4294967296
theorem seqF_inv : ∀ (k : Nat) (xs : List UInt8), xs.length ≤ k → (Der.seqF k xs).any (·.isNone) = false →
    (((Der.seqF k xs).filterMap id).map (·.2.2)).flatten = xs ∧ ∀ x ∈ (Der.seqF k xs).filterMap id, El.wf x
  | 0, xs, hk, _ => by
    have : xs = [] := List.eq_nil_of_length_eq_zero (by omega)
    subst this
    simp [Der.seqF]
  | k + 1, xs, hk, h => by
    rw [Der.seqF] at h ⊢
    split at h
    · rename_i hx
      subst hx
      simp
    · rename_i hx
      rw [if_neg hx]
      split at h
      · simp at h
      · rename_i t b r rest he
        have hi := Der.elem_inv he
        have hl := elem_len he
        have hr : rest.length < xs.length := by
          have := congrArg List.length hi.2.1
          simp only [List.length_append, Der.write, List.length_cons] at this
          omega
        rw [List.any_cons] at h
        have hrec := seqF_inv k rest (by omega) (by simpa using h)
        simp only [List.filterMap_cons, id, List.map_cons, List.flatten_cons]
        refine ⟨by rw [hrec.1]; exact hl.2.2.2, ?_⟩
        intro x hx
        rcases List.mem_cons.1 hx with rfl | hx
        · exact ⟨hi.1, hi.2.2.1, hi.2.2.2⟩
        · exact hrec.2 x hx
theorem all_inv {xs : List UInt8} {L : List El} (h : Der.all xs = some L) : (L.map (·.2.2)).flatten = xs ∧ ∀ x ∈ L, El.wf x := by
  unfold Der.all at h
  split at h
  · cases h
  · rename_i hn
    injection h with h
    subst h
    exact seqF_inv xs.length xs (Nat.le_refl _) (by rw [Bool.not_eq_true] at hn; exact hn)
theorem tag_eq {t : UInt8} {k : Nat} (hk : k < 256) (h : (t.toNat : Int) = (k : Int)) : t = UInt8.ofNat k := by
  apply UInt8.toNat_inj.1
  rw [UInt8.toNat_ofNat']
  omega
theorem parts_inv {k : Nat} {lo hi : Int} {x : El} {l : List El} (hk : k < 256) (h : Cert.parts (k : Int) lo hi x = some l) : x.1 = UInt8.ofNat k ∧ x.2.1 = (l.map (·.2.2)).flatten ∧ (∀ y ∈ l, El.wf y) ∧ lo ≤ (l.length : Int) ∧ (l.length : Int) ≤ hi := by
  unfold Cert.parts at h
  obtain ⟨b, h1, h⟩ := binv h
  obtain ⟨l', h2, h⟩ := binv h
  obtain ⟨_, h3, h⟩ := binv h
  injection h with h
  subst h
  obtain ⟨rfl, ht⟩ := body_some h1
  have h3 := must_inv h3
  simp only [Bool.and_eq_true, decide_eq_true_eq] at h3
  exact ⟨tag_eq hk ht, (all_inv h2).1.symm, (all_inv h2).2, h3.1, h3.2⟩
theorem arcs_inv {x : El} {l : List Nat} (h : Cert.arcs x = some l) : x.1 = 6 ∧ x.2.1 = Der.putOid l := by
  unfold Cert.arcs at h
  obtain ⟨b, h1, h⟩ := binv h
  obtain ⟨rfl, ht⟩ := body_some h1
  exact ⟨tag_eq (k := 6) (by omega) ht, (Der.oid_put h).symm⟩
theorem len2 {l : List El} (h1 : (2 : Int) ≤ (l.length : Int)) (h2 : (l.length : Int) ≤ 2) : ∃ a b, l = [a, b] := by
  match l, h1, h2 with
  | [], h, _ => simp at h
  | [_], h, _ => simp at h
  | [a, b], _, _ => exact ⟨a, b, rfl⟩
  | _ :: _ :: _ :: _, _, h => simp at h; omega
theorem oid_alg : Der.oid [42, 134, 72, 134, 247, 13, 1, 1, 11] = some [1, 2, 840, 113549, 1, 1, 11] := by decide +kernel
theorem method_inv {last : Nat} {x : El} {u : Unit} (h : Cert.method last x = some u) (hx : El.wf x) : x.2.2 = Der.write 48 (Der.write 6 (Der.putOid [1, 2, 840, 113549, 1, 1, last]) ++ [5, 0]) := by
  unfold Cert.method at h
  obtain ⟨l, h1, h⟩ := binv h
  obtain ⟨a, h2, h⟩ := binv h
  obtain ⟨_, h3, h⟩ := binv h
  have h3 := must_inv h3
  have h4 := must_inv h
  obtain ⟨ht, hb, hw, l1, l2⟩ := parts_inv (by omega : 48 < 256) h1
  obtain ⟨p, q, rfl⟩ := len2 l1 l2
  simp only [beq_iff_eq] at h3 h4
  subst h3
  simp only [List.getD_eq_getElem?_getD, List.getElem?_cons_zero, List.getElem?_cons_succ, Option.getD_some] at h2 h4
  obtain ⟨t1, t2⟩ := arcs_inv h2
  rw [hx.1, hb, ht]
  simp only [List.map_cons, List.map_nil, List.flatten_cons, List.flatten_nil, List.append_nil]
  rw [h4, (hw p (by simp)).1, t1, t2]
  rfl
theorem signAlg_eq : Ref.signAlg = Der.write 48 (Der.write 6 (Der.putOid [1, 2, 840, 113549, 1, 1, 11]) ++ [5, 0]) := by
  rw [Der.oid_put oid_alg]
  decide +kernel
end Go.Proofs.Ytmnekhliblkibaa
end

section
/- What Cert.parse tells keeps to the limits, in plain Lean. -/
namespace Go.Proofs.Ytmnekhliblkibaa
open Go.RowKit
set_option maxRecDepth 100000

structure Fl.ok (f : Fl) : Prop where
  p1 : -1 ≤ f.path
  p2 : f.path ≤ 255
  cp : f.ca = true ∨ f.path = -1
  u1 : -1 ≤ f.usage
  u0 : f.usage ≠ 0
  u2 : f.usage < 512
theorem number_tag {x : El} {ys : List UInt8} (h : Cert.number x = some ys) : x.1 = 2 ∧ Der.int x.2.1 = some ys := by
  unfold Cert.number at h
  obtain ⟨b, h1, h⟩ := binv h
  obtain ⟨rfl, ht⟩ := body_some h1
  exact ⟨tag_eq (k := 2) (by omega) ht, h⟩
theorem told_right {n : Nat} {f : Nat → Nat} {b : List UInt8} {t : Tm} (h : Stamp.told n f b = some t) : Stamp.right t = true := by
  unfold Stamp.told at h
  split at h
  · rename_i hc
    injection h with h
    subst h
    exact hc.2.2.2
  · cases h
theorem moment_right {x : El} {t : Tm} (h : Cert.moment x = some t) : Stamp.right t = true := by
  unfold Cert.moment at h
  split at h
  · exact told_right h
  · split at h
    · exact told_right h
    · cases h
/-- What a signed part's reading is sure of. -/
structure Sg.ok (s : Sg) : Prop where
  tbs : ∃ b, Der.elem s.tbs = some (48, b, s.tbs, []) ∧ s.tbs = Der.write 48 b ∧ b.length < 4294967296
  ser : ∃ m, Der.int s.ser = some m ∧ m ≠ []
  few : s.ser.length ≤ 20
  less : Stamp.less s.to s.from_ = false
  r1 : Stamp.right s.from_ = true
  r2 : Stamp.right s.to = true
  e : s.e < 8589934592
  fl : s.fl.ok
def LawPost (w : World) (e : Ending) (w' : World) : Prop := e = .returned (.bool true) ∧ Below w.heap.size w w'
theorem right_md {t : Tm} (hr : Stamp.right t = true) : t.d ≤ 31 ∧ t.mo < 13 := by
  unfold Stamp.right at hr
  simp only [Bool.and_eq_true, decide_eq_true_eq] at hr
  obtain ⟨⟨⟨⟨⟨⟨h1, h2⟩, h3⟩, h4⟩, h5⟩, h6⟩, h7⟩ := hr
  unfold Stamp.days at h2
  split at h2
  · omega
  · by_cases hm : t.mo < 13
    · refine ⟨?_, hm⟩
      generalize t.mo = m at h2 hm
      match m, hm, h2 with
      | 0, _, h2 | 1, _, h2 | 2, _, h2 | 3, _, h2 | 4, _, h2 | 5, _, h2 | 6, _, h2 | 7, _, h2 | 8, _, h2 | 9, _, h2 | 10, _, h2 | 11, _, h2 | 12, _, h2 => simp at h2; omega
    · rw [List.getD_eq_getElem?_getD, List.getElem?_eq_none (by simp; omega)] at h2
      simp at h2
      omega
theorem right_fits {t : Tm} (hr : Stamp.right t = true) : t.fits := by
  have hy : t.y ≤ 9999 := by
    unfold Stamp.right at hr
    simp only [Bool.and_eq_true, decide_eq_true_eq] at hr
    omega
  unfold Stamp.right at hr
  simp only [Bool.and_eq_true, decide_eq_true_eq] at hr
  obtain ⟨⟨⟨⟨⟨⟨h1, h2⟩, h3⟩, h4⟩, h5⟩, h6⟩, h7⟩ := hr
  have hd : t.d ≤ 31 ∧ t.mo < 13 := by
    unfold Stamp.days at h2
    split at h2
    · omega
    · by_cases hm : t.mo < 13
      · refine ⟨?_, hm⟩
        generalize t.mo = m at h2 hm
        match m, hm, h2 with
        | 0, _, h2 | 1, _, h2 | 2, _, h2 | 3, _, h2 | 4, _, h2 | 5, _, h2 | 6, _, h2 | 7, _, h2 | 8, _, h2 | 9, _, h2 | 10, _, h2 | 11, _, h2 | 12, _, h2 => simp at h2; omega
      · rw [List.getD_eq_getElem?_getD, List.getElem?_eq_none (by simp; omega)] at h2
        simp at h2
        omega
  exact ⟨by omega, by omega, by omega, by omega, by omega, by omega⟩
end Go.Proofs.Ytmnekhliblkibaa
end

section
/- The contract of the reference's length. -/
namespace Go.Proofs.Ytmnekhliblkibaa
open Go.RowKit
set_option maxRecDepth 100000

/-- What length tells: whether, and if so, how many bytes the body has, and where it begins. -/
def LenPost (xs : List UInt8) (w : World) (e : Ending) (w' : World) : Prop :=
  ∃ (n f : Int) (ok : Bool), e = .returned (.tuple #[.int .i64 n, .int .i64 f, .bool ok]) ∧ (∃ k, w' = w.drewN k) ∧
    (ok = true → ∃ n' f' : Nat, n = n' ∧ f = f' ∧ Der.lenOf xs = some (f', n')) ∧ (ok = false → Der.lenOf xs = none)

theorem len_no {xs : List UInt8} {w w' : World} {f n : Int} (h : Der.lenOf xs = none) (hw : ∃ k, w' = w.drewN k) : LenPost xs w (.returned (.tuple #[.int .i64 n, .int .i64 f, .bool false])) w' :=
  ⟨n, f, false, rfl, hw, (fun h => by cases h), fun _ => h⟩
theorem len_yes {xs : List UInt8} {w w' : World} {f n : Int} {f' n' : Nat} (h : Der.lenOf xs = some (f', n')) (hf : f = f') (hn : n = n') (hw : ∃ k, w' = w.drewN k) : LenPost xs w (.returned (.tuple #[.int .i64 n, .int .i64 f, .bool true])) w' :=
  ⟨n, f, true, rfl, hw, fun _ => ⟨n', f', hn, hf, h⟩, fun h => by cases h⟩
theorem len_end {xs : List UInt8} {w : World} {k m : Nat} (h : Der.lenOf xs = if Der.be ((xs.drop 2).take m) < 128 then none else some (2 + m, Der.be ((xs.drop 2).take m))) (hk : k = m) :
    LenPost xs w (.returned (.tuple #[.int .i64 (Der.be (((xs.drop 2).take m).take k) : Int), .int .i64 (2 + (m : Int)), .bool (decide (128 ≤ (Der.be (((xs.drop 2).take m).take k) : Int)))])) w := by
  subst hk
  rw [List.take_take, Nat.min_self]
  by_cases h1 : Der.be ((xs.drop 2).take k) < 128
  · rw [if_pos h1] at h
    rw [decide_eq_false (by omega)]
    exact len_no h ⟨0, rfl⟩
  · rw [if_neg h1] at h
    rw [decide_eq_true (by omega)]
    exact len_yes h (by omega) rfl ⟨0, rfl⟩

theorem len_small (A : Option Addr) (n c : Nat) (xs : List UInt8) (B : Nat) (w : World) (h : Rd w B A n c xs) (hn : n < 2) :
    Calls Try.prog 54 #[.slice A n c] w (LenPost xs w) := by
  have hx : Der.lenOf xs = none := by
    have hl := h.len
    match xs, hl with
    | [], _ => simp [Der.lenOf, Der.lenOf]
    | [_], _ => simp [Der.lenOf, Der.lenOf]
    | _ :: _ :: _, hl => simp at hl; omega
  have H := Lib.hid hx
  clear hx h
  have h2 : ((n : Int) < 2) := by omega
  go_enter Try.func54, Try.ntmps54
  go_wp2
  go_ret3
  exact len_no H.out ⟨0, rfl⟩

theorem len_short (b o n c : Nat) (x1 : UInt8) (xs : List UInt8) (w : World) (hn : 2 ≤ n)
   (h1 : w.cell? ⟨b, o + 1, none⟩ = some (.int .u8 (x1.toNat : Int)))
   (hl : (x1.toNat : Int) < 128) (hx : Hid (Der.lenOf xs = some (2, x1.toNat))) :
    Calls Try.prog 54 #[.slice (some ⟨b, o, none⟩) n c] w (LenPost xs w) := by
  have hlen : ¬ ((n : Int) < 2) := by omega
  have hlen2 : (1 : Int) < n := by omega
  go_enter Try.func54, Try.ntmps54
  go_wp2
  go_ret3
  exact len_yes hx.out rfl rfl ⟨0, rfl⟩

theorem len_long_no0 (b o n c : Nat) (m : Nat) (xs : List UInt8) (w : World) (hn : 2 ≤ n) (hm : m < 128)
   (h1 : w.cell? ⟨b, o + 1, none⟩ = some (.int .u8 ((m : Int) + 128)))
   (hx : Hid (Der.lenOf xs = none)) (hno : m = 0) :
    Calls Try.prog 54 #[.slice (some ⟨b, o, none⟩) n c] w (LenPost xs w) := by
  subst hno
  have hlen : ¬ ((n : Int) < 2) := by omega
  have hlen2 : (1 : Int) < n := by omega
  go_enter Try.func54, Try.ntmps54
  go_wp2
  go_ret3
  exact len_no hx.out ⟨0, rfl⟩

theorem len_long_no1 (b o n c : Nat) (m : Nat) (xs : List UInt8) (w : World) (hn : 2 ≤ n) (hm : m < 128)
   (h1 : w.cell? ⟨b, o + 1, none⟩ = some (.int .u8 ((m : Int) + 128)))
   (hx : Hid (Der.lenOf xs = none)) (hno : 4 < m) :
    Calls Try.prog 54 #[.slice (some ⟨b, o, none⟩) n c] w (LenPost xs w) := by
  have hlen : ¬ ((n : Int) < 2) := by omega
  have hlen2 : (1 : Int) < n := by omega
  have e0 : ((m : Int) == 0) = false := by simp; omega
  go_enter Try.func54, Try.ntmps54
  go_wp2
  go_ret3
  exact len_no hx.out ⟨0, rfl⟩

theorem len_long_no2 (b o n c : Nat) (m : Nat) (xs : List UInt8) (w : World) (hn : 2 ≤ n) (hm : m ≤ 4)
   (h1 : w.cell? ⟨b, o + 1, none⟩ = some (.int .u8 ((m : Int) + 128)))
   (hx : Hid (Der.lenOf xs = none)) (hm0 : 0 < m) (hno : n < 2 + m) :
    Calls Try.prog 54 #[.slice (some ⟨b, o, none⟩) n c] w (LenPost xs w) := by
  have hlen : ¬ ((n : Int) < 2) := by omega
  have hlen2 : (1 : Int) < n := by omega
  have e0 : ((m : Int) == 0) = false := by simp; omega
  have e1 : ¬ (4 : Int) < m := by omega
  have e2 : (n : Int) < 2 + m := by omega
  go_enter Try.func54, Try.ntmps54
  go_wp2
  go_ret3
  exact len_no hx.out ⟨0, rfl⟩

theorem len_long_no3 (b o n c : Nat) (m : Nat) (xs : List UInt8) (w : World) (hn : 2 + m ≤ n) (hm : m ≤ 4)
   (h1 : w.cell? ⟨b, o + 1, none⟩ = some (.int .u8 ((m : Int) + 128))) (h2 : w.cell? ⟨b, o + 2, none⟩ = some (.int .u8 0))
   (hx : Hid (Der.lenOf xs = none)) (hm0 : 0 < m) :
    Calls Try.prog 54 #[.slice (some ⟨b, o, none⟩) n c] w (LenPost xs w) := by
  have hlen : ¬ ((n : Int) < 2) := by omega
  have hlen2 : (2 : Int) < n := by omega
  have e0 : ((m : Int) == 0) = false := by simp; omega
  have e1 : ¬ (4 : Int) < m := by omega
  have e2 : ¬ (n : Int) < 2 + m := by omega
  go_enter Try.func54, Try.ntmps54
  go_wp2
  go_ret3
  exact len_no hx.out ⟨0, rfl⟩

set_option maxHeartbeats 400000 in
theorem len_long (b o n c : Nat) (x2 : UInt8) (m : Nat) (xs : List UInt8) (B : Nat) (w : World) (hr : Rd w B (some ⟨b, o, none⟩) n c xs) (hn : 2 + m ≤ n) (hm : m ≤ 4)
   (h1 : w.cell? ⟨b, o + 1, none⟩ = some (.int .u8 ((m : Int) + 128))) (h2 : w.cell? ⟨b, o + 2, none⟩ = some (.int .u8 (x2.toNat : Int)))
   (hm0 : 0 < m) (hx2 : ((x2.toNat : Int) == 0) = false)
   (hx : Hid (Der.lenOf xs = if Der.be ((xs.drop 2).take m) < 128 then none else some (2 + m, Der.be ((xs.drop 2).take m)))) :
    Calls Try.prog 54 #[.slice (some ⟨b, o, none⟩) n c] w (LenPost xs w) := by
  have hcap := hr.cap
  have hcm := hr.capm
  have hlen : ¬ ((n : Int) < 2) := by omega
  have hlen2 : (2 : Int) < n := by omega
  have e0 : ((m : Int) == 0) = false := by simp; omega
  have e1 : ¬ (4 : Int) < m := by omega
  have e2 : ¬ (n : Int) < 2 + m := by omega
  go_enter Try.func54, Try.ntmps54
  go_wp2
  go_loop [6, 7] (fun t i => ∃ k : Nat, k ≤ m ∧ i = .int .i64 k ∧ t = .int .i64 (Der.be (((xs.drop 2).take m).take k))) (fun _ i => m - (intOf i).toNat)
  case atStart => exact ⟨0, Nat.zero_le _, rfl, rfl⟩
  case round =>
    obtain ⟨k, hk, rfl, rfl⟩ := hrel
    by_cases hlt : k < m
    · obtain ⟨x, hx', hc'⟩ := hr.get (k := 2 + k) (by omega)
      have hc2 : w.cell? ⟨b, o + (2 + k), none⟩ = some (.int .u8 (x.toNat : Int)) := hc'
      clear hc'
      have HX := Lib.hid (get_take_drop hlt hx')
      clear hx'
      have hxb : (x.toNat : Int) < 256 := by have := x.toNat_lt; omega
      have hbe := Der.be_lt (((xs.drop 2).take m).take k)
      have hpw : 256 ^ (((xs.drop 2).take m).take k).length ≤ 256 ^ 3 := Nat.pow_le_pow_right (by omega) (by simp; omega)
      have hbb : (Der.be (((xs.drop 2).take m).take k) : Int) < 16777216 := by omega
      clear hbe hpw
      have hlt' : (k : Int) < m := by omega
      go_wp2
      go_round
      case rel => 
        refine ⟨k + 1, by omega, by go_num, ?_⟩
        rw [take_snoc HX.out, Der.be_snoc]; go_num
      case measure => simp [intOf]; omega
    · have hge : ¬ (k : Int) < m := by omega
      go_wp2
      go_ret3
      have hkm : k = m := by omega
      exact len_end hx.out hkm

/-- length, at any bytes. -/
theorem len_any (A : Option Addr) (n c : Nat) (xs : List UInt8) (B : Nat) (w : World) (h : Rd w B A n c xs) :
    Calls Try.prog 54 #[.slice A n c] w (LenPost xs w) := by
  by_cases hn : n < 2
  · exact len_small A n c xs B w h hn
  have hn2 : 2 ≤ n := by omega
  obtain ⟨b, o, rfl, hbB, hcell⟩ := h.at_ (by omega)
  have hl := h.len
  match xs, hl with
  | [], hl => simp at hl; omega
  | [_], hl => simp at hl; omega
  | x0 :: x1 :: r, hl =>
    simp only [List.length_cons] at hl
    have h1 : w.cell? ⟨b, o + 1, none⟩ = some (.int .u8 (x1.toNat : Int)) := hcell 1 x1 rfl
    by_cases hs : x1.toNat < 128
    · exact len_short b o n c x1 _ w hn2 h1 (by omega) (by simp [Hid, Der.lenOf, hs])
    obtain ⟨m, hm⟩ : ∃ m, x1.toNat = m + 128 := ⟨x1.toNat - 128, by omega⟩
    have hlt := x1.toNat_lt
    have h1' : w.cell? ⟨b, o + 1, none⟩ = some (.int .u8 ((m : Int) + 128)) := by rw [h1, hm]; rfl
    have hh : Der.lenOf (x0 :: x1 :: r) = if m = 0 ∨ 4 < m ∨ r.length < m ∨ r.headD 0 = 0 then none else if Der.be (r.take m) < 128 then none else some (2 + m, Der.be (r.take m)) := by
      simp only [Der.lenOf, hm, Nat.add_sub_cancel]
      rw [if_neg (by omega)]
      have e1 : (m + 128 = 128) = (m = 0) := propext (by omega)
      have e2 : (132 < m + 128) = (4 < m) := propext (by omega)
      simp only [e1, e2]
    by_cases m0 : m = 0
    · exact len_long_no0 b o n c m _ w hn2 (by omega) h1' (by rw [Hid, hh, if_pos (by omega)]) m0
    by_cases m4 : 4 < m
    · exact len_long_no1 b o n c m _ w hn2 (by omega) h1' (by rw [Hid, hh, if_pos (by omega)]) m4
    by_cases ml : r.length < m
    · exact len_long_no2 b o n c m _ w hn2 (by omega) h1' (by rw [Hid, hh, if_pos (by omega)]) (by omega) (by omega)
    match r, hl, hcell, hh, ml with
    | [], _, _, _, ml => simp at ml; omega
    | x2 :: r, hl, hcell, hh, ml =>
      simp only [List.length_cons] at ml hl
      have h2 : w.cell? ⟨b, o + 2, none⟩ = some (.int .u8 (x2.toNat : Int)) := hcell 2 x2 rfl
      by_cases z : x2 = 0
      · subst z
        exact len_long_no3 b o n c m _ w (by omega) (by omega) h1' h2 (by rw [Hid, hh, if_pos (by simp)]) (by omega)
      · have zn : x2.toNat ≠ 0 := fun e => z (UInt8.toNat_inj.1 e)
        refine len_long b o n c x2 m _ B w h (by omega) (by omega) h1' h2 (by omega) (by simp; omega) ?_
        rw [Hid, hh, if_neg (by simp [z]; omega)]
        rfl
end Go.Proofs.Ytmnekhliblkibaa
end

section
/- The contract of the reference's Parse. -/
namespace Go.Proofs.Ytmnekhliblkibaa
open Go.RowKit
set_option maxRecDepth 100000

theorem refParse_no {xs : List UInt8} {w w' : World} (h : Der.elem xs = none) (hb : Below w.heap.size w w') :
    ParsePost 9 xs w (.returned (.tuple #[.agg #[.int .u8 0, .slice none 0 0, .slice none 0 0], .slice none 0 0, .int .i64 9])) w' := ⟨hb, .inl ⟨h, rfl⟩⟩

set_option maxHeartbeats 1000000 in
theorem refParse_any (A : Option Addr) (n c : Nat) (xs : List UInt8) (w : World) (h : Rd w w.heap.size A n c xs) (hn : n ≤ 1099511627776) :
    Calls Try.prog 25 #[.slice A n c] w (ParsePost 9 xs w) := by
  have hcap := h.cap
  have hcm := h.capm
  have hl := h.len
  go_enter Try.func25, Try.ntmps25
  go_wp2_with fail
  refine (len_any A n c xs w.heap.size _ (h.alloc (Nat.le_refl _) _)).mono ?_
  rintro e w' ⟨k, f, ok, rfl, ⟨nd, rfl⟩, hyes, hno⟩
  cases ok with
  | false =>
    have hno' : Der.elem xs = none := elem_none (by unfold Der.hdr; rw [hno rfl]; split <;> rfl)
    have HNO := Lib.hid hno'
    clear hyes hno hno' hl
    go_wp2
    exact bodyPost_ret (v := .tuple #[.agg #[.int .u8 0, .slice none 0 0, .slice none 0 0], .slice none 0 0, .int .i64 9]) (by simp [results, Try.results25, go_sem]) rfl (refParse_no HNO.out (by (repeat (first | exact Below.refl _ _ | assumption | (refine Below.setCell ?_ (by first | omega | (simp; done) | (simp; omega)) _) | (refine Below.alloc ?_ (by first | omega | (simp; done) | (simp; omega)) _) | (refine below_drewN ?_ _) | (refine Below.drew ?_)))))
  | true =>
    obtain ⟨n', f', rfl, rfl, hd⟩ := hyes rfl
    clear hno hyes
    obtain ⟨hf2, hf6, hfl, hn32⟩ := Der.lenOf_bd hd
    rw [hl] at hfl
    obtain ⟨b, o, rfl, hbB, hcell⟩ := h.at_ (by omega)
    obtain ⟨x0, hx0⟩ : ∃ x0, xs.headD 0 = x0 := ⟨_, rfl⟩
    have h0 : w.cell? ⟨b, o, none⟩ = some (.int .u8 (x0.toNat : Int)) := by
      have hx : xs[0]? = some (xs.headD 0) := by cases xs with
        | nil => simp at hl; omega
        | cons x r => rfl
      rw [hx0] at hx
      simpa using hcell 0 _ hx
    have hlt0 := x0.toNat_lt
    by_cases ht : x0.toNat % 32 = 31
    · have hno' : Der.elem xs = none := elem_none (by unfold Der.hdr Der.tagBad; rw [hx0, ht]; rfl)
      have HNO := Lib.hid hno'
      have e1 : ((x0.toNat : Int) % 32 == 31) = true := by simp; omega
      have hlen2 : (0 : Int) < n := by omega
      clear hno' hl hx0 ht hd h hcell
      go_wp2
      exact bodyPost_ret (v := .tuple #[.agg #[.int .u8 0, .slice none 0 0, .slice none 0 0], .slice none 0 0, .int .i64 9]) (by simp [results, Try.results25, go_sem]) rfl (refParse_no HNO.out (by (repeat (first | exact Below.refl _ _ | assumption | (refine Below.setCell ?_ (by first | omega | (simp; done) | (simp; omega)) _) | (refine Below.alloc ?_ (by first | omega | (simp; done) | (simp; omega)) _) | (refine below_drewN ?_ _) | (refine Below.drew ?_)))))
    · have hel : Der.elem xs = if n' ≤ n - f' then some (x0, (xs.take (f' + n')).drop f', xs.take (f' + n'), xs.drop (f' + n')) else none := by
        unfold Der.elem Der.hdr Der.tagBad
        rw [hx0, hd, hl, if_neg (by simpa using ht)]
      have HEL := Lib.hid hel
      have e1 : ((x0.toNat : Int) % 32 == 31) = false := by simp; omega
      have hlen2 : (0 : Int) < n := by omega
      clear hel hd hx0 ht hcell
      by_cases hfit : n' ≤ n - f'
      · have hgt : ¬ ((n : Int) - f' < n') := by omega
        obtain ⟨A1, hr1, c1, d1⟩ := run_cut h f' (f' + n') (f' : Int) ((f' : Int) + (n' : Int)) rfl (by omega) (by omega) (by omega)
        obtain ⟨A2, hr2, c2, d2⟩ := run_cut_lo h (f' + n') ((f' : Int) + (n' : Int)) (by omega) (by omega)
        have hr3 := h.upto (f' + n') (by omega)
        simp only [Nat.add_sub_cancel_left] at hr1 c1 d1
        have el := HEL.out
        rw [if_pos hfit] at el
        have HX := Lib.hid el
        have hb0 := Blk.new w 50 #[.int .u8 0, .slice none 0 0, .slice none 0 0]
        have hwr : IntKind.i64.wrap ((f' : Int) + (n' : Int)) = (f' : Int) + (n' : Int) := IntWalk.i64_in _ (by omega)
        have hn0 : 0 < n := by omega
        have hne1 : ¬ b = w.heap.size := by omega
        have hne2 : ¬ w.heap.size = b := by omega
        have hs0 : (0 : Int) ≤ (f' : Int) + (n' : Int) := by omega
        have hs1 : (f' : Int) + (n' : Int) ≤ (c : Int) := by omega
        have hs2 : ((f' : Int) + (n' : Int)).toNat = f' + n' := by omega
        clear hl el HEL
        go_wp2
        go_region_held3 (fun w' => w'.cell? ⟨b, o, none⟩ = some (.int .u8 (x0.toNat : Int))) (go_keep)
          (first
            | (go_at_call 37; ((with_reducible refine (copy_any A1 n' (c - f') _ _ (hr1.up (by (repeat (first | exact Below.refl _ _ | assumption | (refine Below.setCell ?_ (by first | omega | (simp; done) | (simp; omega)) _) | (refine Below.alloc ?_ (by first | omega | (simp; done) | (simp; omega)) _) | (refine below_drewN ?_ _) | (refine Below.drew ?_))))) (by omega)).mono ?_); rintro e w1 ⟨A4, n4, c4, rfl, ho1, hb1⟩); have hbw1 : Below w.heap.size w w1 := Below.trans (by (repeat (first | exact Below.refl _ _ | assumption | (refine Below.setCell ?_ (by first | omega | (simp; done) | (simp; omega)) _) | (refine Below.alloc ?_ (by first | omega | (simp; done) | (simp; omega)) _) | (refine below_drewN ?_ _) | (refine Below.drew ?_)))) (hb1.mono (by simp)); obtain ⟨hc1, hf1, hB1, hz1⟩ := hb0.box (B := w.heap.size + 1) (Below.trans (by (repeat (first | exact Below.refl _ _ | assumption | (refine Below.setCell ?_ (by first | omega | (simp; done) | (simp; omega)) _) | (refine Below.alloc ?_ (by first | omega | (simp; done) | (simp; omega)) _) | (refine below_drewN ?_ _) | (refine Below.drew ?_)))) (hb1.mono (by simp))) (by simp); have hq1 : w1.cell? ⟨b, o, none⟩ = some (.int .u8 (x0.toNat : Int)) := (hbw1.cell (p := ⟨b, o, none⟩) hbB).trans h0)
            | (go_at_call 37; ((with_reducible refine (copy_any (some ⟨b, o, none⟩) (f' + n') c _ _ (hr3.up (by (repeat (first | exact Below.refl _ _ | assumption | (refine Below.setCell ?_ (by first | omega | (simp; done) | (simp; omega)) _) | (refine Below.alloc ?_ (by first | omega | (simp; done) | (simp; omega)) _) | (refine below_drewN ?_ _) | (refine Below.drew ?_))))) (by omega)).mono ?_); rintro e w2 ⟨A5, n5, c5, rfl, ho2, hb2⟩); have hbw2 : Below w.heap.size w w2 := Below.trans (by (repeat (first | exact Below.refl _ _ | assumption | (refine Below.setCell ?_ (by first | omega | (simp; done) | (simp; omega)) _) | (refine Below.alloc ?_ (by first | omega | (simp; done) | (simp; omega)) _) | (refine below_drewN ?_ _) | (refine Below.drew ?_)))) (hb2.mono (by omega)); obtain ⟨hc2, hf2, hB2, hz2⟩ := hB1.box hb2 hz1; have hq2 : w2.cell? ⟨b, o, none⟩ = some (.int .u8 (x0.toNat : Int)) := (hbw2.cell (p := ⟨b, o, none⟩) hbB).trans h0)
            | (go_at_call 37; ((with_reducible refine (copy_any A2 (n - (f' + n')) (c - (f' + n')) _ _ (hr2.up (by (repeat (first | exact Below.refl _ _ | assumption | (refine Below.setCell ?_ (by first | omega | (simp; done) | (simp; omega)) _) | (refine Below.alloc ?_ (by first | omega | (simp; done) | (simp; omega)) _) | (refine below_drewN ?_ _) | (refine Below.drew ?_))))) (by omega)).mono ?_); rintro e w3 ⟨A6, n6, c6, rfl, ho3, hb3⟩); have hbw3 : Below w.heap.size w w3 := Below.trans (by (repeat (first | exact Below.refl _ _ | assumption | (refine Below.setCell ?_ (by first | omega | (simp; done) | (simp; omega)) _) | (refine Below.alloc ?_ (by first | omega | (simp; done) | (simp; omega)) _) | (refine below_drewN ?_ _) | (refine Below.drew ?_)))) (hb3.mono (by first | omega | (simp; omega))); obtain ⟨hc3, hf3, hB3, hz3⟩ := hB2.box hb3 (by first | exact hz2 | simpa using hz2); have hq3 : w3.cell? ⟨b, o, none⟩ = some (.int .u8 (x0.toNat : Int)) := (hbw3.cell (p := ⟨b, o, none⟩) hbB).trans h0))
        all_goals go_wp2
        have hall := ((Owns.one ho1 hb1.size).below hb2 (Nat.le_refl _)).append (Owns.one ho2 hb2.size)
        have hall2 := (hall.below hb3 (Nat.le_refl _)).append (Owns.one ho3 hb3.size)
        refine bodyPost_ret (v := .tuple #[.agg #[.int .u8 (x0.toNat : Int), .slice A4 n4 c4, .slice A5 n5 c5], .slice A6 n6 c6, .int .i64 0]) (by simp [results, Try.results25, go_sem, hc3]) rfl
          ⟨by (repeat (first | exact Below.refl _ _ | assumption | (refine Below.setCell ?_ (by first | omega | (simp; done) | (simp; omega)) _) | (refine Below.alloc ?_ (by first | omega | (simp; done) | (simp; omega)) _) | (refine below_drewN ?_ _) | (refine Below.drew ?_))), .inr ⟨_, _, _, _, _, _, _, _, _, _, _, _, _, HX.out, rfl, ?_⟩⟩
        exact ((((hall2.setCell (by simp) _).setCell (by simp) _).setCell (by simp) _).mono (by simp) (by simp))
      · have hgt : ((n : Int) - f' < n') := by omega
        have hno := HEL.out
        rw [if_neg hfit] at hno
        have HNO := Lib.hid hno
        clear hno hl h
        go_wp2
        exact bodyPost_ret (v := .tuple #[.agg #[.int .u8 0, .slice none 0 0, .slice none 0 0], .slice none 0 0, .int .i64 9]) (by simp [results, Try.results25, go_sem]) rfl (refParse_no HNO.out (by (repeat (first | exact Below.refl _ _ | assumption | (refine Below.setCell ?_ (by first | omega | (simp; done) | (simp; omega)) _) | (refine Below.alloc ?_ (by first | omega | (simp; done) | (simp; omega)) _) | (refine below_drewN ?_ _) | (refine Below.drew ?_)))))
end Go.Proofs.Ytmnekhliblkibaa
end

section
/- Arguments opened: a slice of bytes that came in, as the list of its bytes. -/
namespace Go.Proofs.Ytmnekhliblkibaa
open Go.ChangeShapes Go.WideShapes Go.ChangeAt Go.RowKit

theorem u8_of_wf {n : Int} (h : (Lit.int .u8 n).wf = true) : ((UInt8.ofNat n.toNat).toNat : Int) = n := by
  have h1 : IntKind.u8.min = 0 := rfl
  have h2 : IntKind.u8.max = 255 := rfl
  simp only [Lit.wf, Bool.and_eq_true, decide_eq_true_eq] at h
  rw [UInt8.toNat_ofNat']
  omega

/-- A slice of bytes that came in: nil or not. -/
theorem open_bytes {H : Type} {enc : TypeId × Value → H} {W : World} {a0 : Option Addr} {len cap : Nat} {d0 : DataW H} {p : List MemPlace}
    (h0 : DataW.Trod enc Try.prog W 0 (fun _ => true) true 22 (.slice a0 len cap) d0 p) : ∃ xs : List UInt8, Rd W W.heap.size a0 len cap xs := by
  obtain ⟨fuel, hf⟩ := h0
  rcases open_ints Try.underlying22 Try.underlying5 (by kernel_rfl) hf with ⟨hcs, _⟩ | ⟨x, l, c, zs, hcs, _, hl, hm, hz, _, hcell, hwz⟩
  · simp [Value.cells] at hcs
    obtain ⟨rfl, rfl, rfl⟩ := hcs
    exact ⟨[], Rd.none_⟩
  · simp [Value.cells] at hcs
    obtain ⟨rfl, rfl, rfl⟩ := hcs
    have hz' : zs.length = cap := by simpa using hz
    have hadd : ∀ i, i < cap → W.cell? (x.add i) = some (.int .u8 (zs.getD i 0)) := fun i hi => hcell i (by omega)
    refine ⟨(zs.take len).map fun n => UInt8.ofNat n.toNat, by simp; omega, hl, by simpa [maxLen] using hm, (fun e => by cases e), fun hc => ?_, by simp; omega, fun hn => ?_⟩
    · obtain ⟨b, o, s⟩ := x
      have h1 := hadd 0 hc
      obtain rfl : s = none := by simpa [Addr.add] using World.cell?_spot h1
      have hlt := World.block_lt_of_cell? W _ h1
      exact ⟨b, o, rfl, by simpa [Addr.add] using hlt⟩
    · have h1 := hadd 0 (by omega)
      have hlt := World.block_lt_of_cell? W _ h1
      refine ⟨x, rfl, by rw [block_of_add] at hlt; exact hlt, fun j u hu => ?_⟩
      have hj : j < len := by
        have := (List.getElem?_eq_some_iff.1 hu).1
        simp at this; omega
      rw [hadd j (by omega)]
      have hzj : zs[j]? = some (zs[j]'(by omega)) := List.getElem?_eq_getElem (by omega)
      have hw := hwz (zs[j]'(by omega)) (List.getElem_mem _)
      simp only [List.map_map, List.getElem?_map, List.getElem?_take, if_pos hj, hzj, Option.map_some, Function.comp, Option.some.injEq] at hu
      subst hu
      simp only [List.getD, hzj, Option.getD_some, bv]
      rw [u8_of_wf hw]
end Go.Proofs.Ytmnekhliblkibaa
end
