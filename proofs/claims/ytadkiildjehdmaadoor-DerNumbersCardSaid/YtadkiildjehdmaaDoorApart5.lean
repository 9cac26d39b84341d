/- Rows one behind the other: what lies where, and that they lie apart. -/
import Derived.Test.YtadkiildjehdmaaDoorApart2
namespace Go.Proofs.YtadkiildjehdmaaDoor
open Go.RowKit
set_option maxRecDepth 100000

/-- Rows one behind the other lie in blocks of their own. -/
theorem Owns.apart {w : World} : ∀ {l : List (Value × List UInt8)} {lo hi : Nat}, Owns w lo hi l → Apart' l
  | [], _, _, _ => List.Pairwise.nil
  | (v, xs) :: l, lo, hi, ⟨mid, h1, h2, h3⟩ => by
    refine List.Pairwise.cons ?_ (Owns.apart h3)
    intro p hp g e1 e2
    have a := h2.lt_ (q := g) e1
    have b := (Owns.rd h3 (v := p.1) (xs := p.2) hp).lt_ e2
    omega
theorem Owns.rows {w : World} {l : List (Value × List UInt8)} {lo hi : Nat} (h : Owns w lo hi l) : ∀ p ∈ l, OwnB w lo hi p.1 p.2 := fun p hp => Owns.rd h (v := p.1) (xs := p.2) hp
/-- Two groups of rows, one behind the other. -/
theorem apart_back {w : World} {lo mid hi : Nat} {l l' : List (Value × List UInt8)} (h : ∀ p ∈ l, OwnB w lo mid p.1 p.2) (h' : ∀ p ∈ l', OwnB w mid hi p.1 p.2) (ha : Apart' l) (ha' : Apart' l') : Apart' (l' ++ l) := by
  refine List.pairwise_append.2 ⟨ha', ha, fun p hp q hq g e1 e2 => ?_⟩
  have a := (h' p hp).lt_ e1
  have b := (h q hq).lt_ e2
  omega

theorem Owns.nils (w : World) (n : Nat) {lo hi : Nat} (h : lo ≤ hi) : Owns w lo hi (List.replicate n (.slice none 0 0, [])) := by
  induction n with
  | zero => exact h
  | succ n ih => exact ⟨lo, Nat.le_refl _, OwnB.nil_, ih⟩
theorem Rd.of_own {w : World} {lo hi n c : Nat} {A : Option Addr} {xs : List UInt8} (h : OwnB w lo hi (.slice A n c) xs) : Rd w hi A n c xs := by
  obtain ⟨_, _, _, e, hr⟩ := h.rd
  injection e with ea eb ec
  subst ea eb ec
  exact hr

end Go.Proofs.YtadkiildjehdmaaDoor
