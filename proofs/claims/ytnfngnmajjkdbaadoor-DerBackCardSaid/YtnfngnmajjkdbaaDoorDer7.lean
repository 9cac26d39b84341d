/- The contract of slices.Reverse at a row of the call's own. -/
import Derived.Test.YtnfngnmajjkdbaaDoorProg
import Derived.Test.YtnfngnmajjkdbaaDoorMem
import Derived.Test.YtnfngnmajjkdbaaDoorMem2
import Derived.Test.YtnfngnmajjkdbaaDoorNum
import Derived.Test.YtnfngnmajjkdbaaDoorBase
import Derived.Test.YtnfngnmajjkdbaaDoorLit
import Derived.BigRegion
namespace Go.Proofs.YtnfngnmajjkdbaaDoor
open Go.RowKit
set_option maxRecDepth 100000

def RevMid (xs : List UInt8) (k : Nat) (ys : List UInt8) : Prop :=
  ys.length = xs.length ∧ ∀ t, t < xs.length → ys[t]? = if t < k ∨ xs.length ≤ t + k then xs[xs.length - 1 - t]? else xs[t]?
theorem RevMid.zero (xs : List UInt8) : RevMid xs 0 xs := ⟨rfl, fun t ht => by rw [if_neg (by omega)]⟩
theorem RevMid.done {xs ys : List UInt8} {k : Nat} (h : RevMid xs k ys) (hk : xs.length ≤ 2 * k + 1) : ys = xs.reverse := by
  apply List.ext_getElem?
  intro t
  by_cases ht : t < xs.length
  · rw [h.2 t ht, List.getElem?_reverse ht]
    split
    · rfl
    · congr 1; omega
  · rw [List.getElem?_eq_none (by rw [h.1]; omega), List.getElem?_eq_none (by simp; omega)]
theorem RevMid.step {xs ys : List UInt8} {k j : Nat} {a b : UInt8} (h : RevMid xs k ys) (hj : j + k + 1 = xs.length) (hkj : k < j) (ha : ys[k]? = some a) (hb : ys[j]? = some b) :
    RevMid xs (k + 1) ((ys.set k b).set j a) := by
  refine ⟨by simpa using h.1, fun t ht => ?_⟩
  have hka := h.2 k (by omega)
  have hjb := h.2 j (by omega)
  rw [if_neg (by omega)] at hka hjb
  have hl := h.1
  by_cases e1 : t = j
  · subst e1
    rw [List.getElem?_set_self (by simp; omega), if_pos (by omega), ← ha, hka]
    congr 1; omega
  · rw [List.getElem?_set_ne (by omega)]
    by_cases e2 : t = k
    · subst e2
      rw [List.getElem?_set_self (by omega), if_pos (by omega), ← hb, hjb]
      congr 1; omega
    · rw [List.getElem?_set_ne (by omega), h.2 t ht]
      by_cases e3 : t < k ∨ xs.length ≤ t + k
      · rw [if_pos e3, if_pos (by omega)]
      · rw [if_neg e3, if_neg (by omega)]

def RevRel (lo hi g n c : Nat) (xs : List UInt8) (w : World) (k : Nat) (wr : World) : Prop :=
  ∃ ys, RevMid xs k ys ∧ OwnB wr lo hi (.slice (some ⟨g, 0, none⟩) n c) ys ∧ w.grownBy wr (some g) ∧ wr.heap.size = w.heap.size

/-- What slices.Reverse leaves. -/
def RevPost (lo hi : Nat) (A : Option Addr) (n c : Nat) (xs : List UInt8) (w : World) (e : Ending) (w' : World) : Prop :=
  e = .returned (.tuple #[]) ∧ OwnB w' lo hi (.slice A n c) xs.reverse ∧ w.grownBy w' (Value.ownBlock (.slice A n c)) ∧ w'.heap.size = w.heap.size

theorem reverse_short (lo hi : Nat) (A : Option Addr) (n c : Nat) (xs : List UInt8) (w : World) (h : OwnB w lo hi (.slice A n c) xs) (hx : xs.length ≤ 1) (hn : n ≤ 1) :
    Calls Tryd.prog 19 #[.slice A n c] w (RevPost lo hi A n c xs w) := by
  have hr : xs.reverse = xs := by
    match xs, hx with
    | [], _ => rfl
    | [_], _ => rfl
    | _ :: _ :: _, hx => simp at hx
  have HR := Lib.hid (And.intro h hr)
  have hlt : ¬ (0 : Int) < (n : Int) - 1 := by omega
  clear h hr
  go_enter Tryd.func19, Tryd.ntmps19
  go_wp2
  refine wp_loop_rounds 1 ?_
  rw [rounds_succ]
  go_wp2
  go_end0
  exact ⟨rfl, by rw [HR.out.2]; exact HR.out.1, World.grownBy.refl _ _, rfl⟩

set_option maxHeartbeats 1000000 in
theorem reverse_any (lo hi : Nat) (A : Option Addr) (n c : Nat) (xs : List UInt8) (w : World) (h : OwnB w lo hi (.slice A n c) xs) (hn : n ≤ 1099511627776) :
    Calls Tryd.prog 19 #[.slice A n c] w (RevPost lo hi A n c xs w) := by
  obtain ⟨A', n', c', e', hr⟩ := h.rd
  injection e' with ea en ec
  subst ea en ec
  have hl := hr.len
  by_cases hs : n ≤ 1
  · exact reverse_short lo hi A n c xs w h (by omega) hs
  obtain ⟨g, cap, e, _, _⟩ := h.1.form (by omega)
  injection e with ea en ec
  subst ea ec
  have hrel0 : RevRel lo hi g n c xs w 0 w := ⟨xs, RevMid.zero xs, h, World.grownBy.refl _ _, rfl⟩
  have HL := Lib.hid hl
  clear h hr en hl
  go_enter Tryd.func19, Tryd.ntmps19
  go_wp2
  go_loopw [2, 3] (fun i j wr => ∃ k m : Nat, k ≤ m + 1 ∧ m + k + 1 = n ∧ i = .int .i64 k ∧ j = .int .i64 m ∧ RevRel lo hi g n c xs w k wr) (fun i _ _ => n - (intOf i).toNat)
  case atStart => exact ⟨0, n - 1, by omega, by omega, rfl, by rw [show ((n - 1 : Nat) : Int) = (n : Int) - 1 from by omega], hrel0⟩
  case round =>
    obtain ⟨k, m, hkm, hn2, rfl, rfl, ys, hmid, ho, hg, hz⟩ := hrel
    by_cases hlt : k < m
    · have hyl : ys.length = n := hmid.1.trans HL.out
      obtain ⟨a, ha, hca⟩ := ho.cellAt hyl (j := k) (by omega)
      obtain ⟨b, hb, hcb⟩ := ho.cellAt hyl (j := m) (by omega)
      have hfr : ∀ o, wr.frozen? ⟨g, o, none⟩ = false := by
        have h1 := ho.1
        rw [hyl] at h1
        exact h1.frozenAt
      have hlt' : (k : Int) < m := by omega
      have hk1 : (k : Int) < n := by omega
      have hm1 : (m : Int) < n := by omega
      have hne1 : ¬ k = m := by omega
      have hne2 : ¬ m = k := by omega
      have HM := Lib.hid (And.intro hmid (And.intro ho (And.intro hg (And.intro hz (And.intro ha (And.intro hb hyl))))))
      have HN := Lib.hid hn2
      clear hmid ho hg hz hn2 ha hb hyl
      go_wp2
      go_region
      go_wp2
      go_roundw
      case rel =>
        obtain ⟨h1, h2, h3, h4, h5, h6, h7⟩ := HM.out
        have h8 := HN.out
        have hx := HL.out
        exact ⟨k + 1, m - 1, by omega, by omega, by go_num, by rw [show ((m - 1 : Nat) : Int) = (m : Int) - 1 from by omega], _, h1.step (by omega) hlt h5 h6,
          ((h2.drewN 1).stored h7 k b).stored (by simpa using h7) m a, grownBy_store (grownBy_store (grownBy_drewN h3 1) _ _) _ _, by simpa using h4⟩
      case measure => simp [intOf]; omega
    · have hlt' : ¬ (k : Int) < m := by omega
      have HM := Lib.hid (And.intro hmid (And.intro ho (And.intro hg hz)))
      have HN := Lib.hid hn2
      clear hmid ho hg hz hn2
      go_wp2
      go_end0
      have hx := HL.out
      have hn3 := HN.out
      exact ⟨rfl, by rw [← HM.out.1.done (by omega)]; exact HM.out.2.1, HM.out.2.2.1, HM.out.2.2.2⟩
end Go.Proofs.YtnfngnmajjkdbaaDoor
