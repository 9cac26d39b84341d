/- The contract of lintellaw10.copied: copies of the parts, in rows of the call's own. -/
import Derived.Test.YtdokijdbefannaaSetC
import Derived.Test.YtdokijdbefannaaNum
namespace Go.Proofs.Ytdokijdbefannaa
open Go.RowKit
set_option maxRecDepth 100000
set_option linter.unusedVariables false
set_option linter.unusedSimpArgs false

/-- A row of bytes is not the row of slices. -/
theorem own_other {w : World} {lo lo' : Nat} {v p : Value} {n k : Nat} {cs xs : List Value} (h : w.ownsRow lo 24 1 v n cs) (h' : w.ownsRow lo' 5 1 p k xs) : p.ownBlock = none ∨ p.ownBlock ≠ v.ownBlock := by
  rcases h.2 with ⟨rfl, _⟩ | ⟨g, cap, cur, rfl, _, hgb, _⟩
  · cases hp : p.ownBlock with
    | none => exact .inl rfl
    | some b => exact .inr (by simp [Value.ownBlock])
  · have := ownsRow_ne h' hgb (fun cur' e => by cases e)
    rcases this with e | e
    · exact .inl e
    · exact .inr (by simpa [Value.ownBlock] using e)
theorem own_keep {w w' : World} {lo hi lo' : Nat} {v p : Value} {n : Nat} {cs : List Value} {xs : List UInt8} (h : w.ownsRow lo 24 1 v n cs) (h' : OwnB w lo' hi p xs) (hg : w.grownBy w' v.ownBlock) : OwnB w' lo' hi p xs :=
  ⟨h'.1.kept hg (own_other h h'.1), h'.2⟩

set_option maxHeartbeats 1000000 in
theorem copied_any (A : Option Addr) (n c : Nat) (L : List (Value × List UInt8)) (w : World) (h : RdL w w.heap.size A n c L) (hn : n ≤ 1099511627776) (hx : ∀ p ∈ L, p.2.length ≤ 1099511627776) :
    Calls Try.prog 6 #[.slice A n c] w fun e w' => ∃ (A' : Option Addr) (c' : Nat) (L' : List (Value × List UInt8)), e = .returned (.slice A' n c') ∧ RdL w' w'.heap.size A' n c' L' ∧ L'.map (·.2) = L.map (·.2) ∧ Below w.heap.size w w' := by
  have H := Lib.hid (And.intro h hx)
  clear h hx
  go_enter Try.func6, Try.ntmps6
  go_wp2
  go_loopw [3, 4] (fun v i wr => ∃ (k : Nat) (L' : List (Value × List UInt8)), k ≤ n ∧ i = .int .i64 k ∧ OwnC 24 1 wr w.heap.size wr.heap.size v k (vals L') ∧ L'.map (·.2) = (L.take k).map (·.2) ∧ (∀ p ∈ L', OwnB wr w.heap.size wr.heap.size p.1 p.2) ∧ Below w.heap.size w wr) (fun _ i _ => n - (intOf i).toNat)
  case atStart => exact ⟨0, [], Nat.zero_le _, rfl, OwnC.nil_, rfl, (fun _ h => nomatch h), Below.refl _ _⟩
  case round =>
    obtain ⟨k, L', hk, rfl, ho, hm, hr, hb⟩ := hrel
    have hsz := hb.size
    by_cases hlt : k < n
    · obtain ⟨b, o, A1, n1, c1, xs, rfl, hbl, hx, hc0, hrd⟩ := H.out.1.get hlt
      have hc := (hb.cell (p := ⟨b, o + k, none⟩) hbl).trans hc0
      have hxs := H.out.2 _ (List.mem_of_getElem? hx)
      have hcp := copy_any A1 n1 c1 xs wr ((hrd.below hb).more hsz) (by have := hrd.len; dsimp only at hxs; omega)
      have hlt' : (k : Int) < n := by omega
      have HO := Lib.hid (And.intro ho (And.intro hm (And.intro hr (And.intro hb hx))))
      clear ho hm hr hb hx hc0 hrd hxs
      go_wp2_with fail
      refine hcp.mono ?_
      rintro e w2 ⟨A2, n2, c2, rfl, ho2, hb2⟩
      have hs2 := hb2.size
      have H2 := Lib.hid (And.intro ho2 hb2)
      clear ho2 hb2 hcp
      go_wp2_with
        (at_builtin
         refine wpList_appC rfl (.tmp 11) (.tmp 17) 22 rfl 24 _ 1 24 bs_info Try.underlying22 rfl (by omega) w.heap.size wr.heap.size _ k (vals L') rfl ((HO.out.1.below H2.out.2 (Nat.le_refl _)).alloc hs2 _) (by simp; omega) _ _ 1 1 [.slice A2 n2 c2] rfl (Reads.one _ _ _) (by simp [Value.oneCell']) (by omega) (by omega) ?_
         intro v6 w6 ho6 hg6 hat6 hb6
         have H6 := Lib.hid (And.intro ho6 (And.intro hg6 hb6))
         clear ho6 hg6 hat6 hb6)
      go_roundw
      case rel =>
        have hal := ((HO.out.1.below H2.out.2 (Nat.le_refl _)).alloc hs2 (.cells #[.slice A2 n2 c2] 24)).1
        refine ⟨k + 1, L' ++ [(.slice A2 n2 c2, xs)], by omega, by go_num, (by have := H6.out.1; simpa [vals] using this), ?_, ?_, HO.out.2.2.2.1.trans (Below.trans ((H2.out.2.mono hsz).alloc (by omega) _) H6.out.2.2)⟩
        · rw [List.take_add_one, HO.out.2.2.2.2]
          simp [HO.out.2.1]
        · intro p hp
          have hs6 := H6.out.2.1.size
          rcases List.mem_append.1 hp with hp | hp
          · refine OwnB.mono (own_keep hal (((HO.out.2.2.1 p hp).below H2.out.2 (Nat.le_refl _)).alloc hs2 _) H6.out.2.1) (Nat.le_refl _) (by simp at hs6; omega)
          · rw [List.mem_singleton] at hp
            subst hp
            exact OwnB.mono (own_keep hal (H2.out.1.alloc (Nat.le_refl _) _) H6.out.2.1) (by omega) (by simp at hs6; omega)
      case measure => simp [intOf]; omega
    · obtain rfl : n = k := by omega
      have hge : ¬ (n : Int) < n := by omega
      have HO := Lib.hid (And.intro ho (And.intro hm (And.intro hr hb)))
      obtain ⟨A6, c6, rfl, hn6, hc6, hz6, hr6⟩ := ho.shape
      have H6 := Lib.hid (And.intro hn6 (And.intro hc6 hr6))
      clear ho hm hr hb hn6 hc6 hz6 hr6
      go_wp2
      go_ret
      have ht : L.take n = L := List.take_of_length_le (by have := H.out.1.len; omega)
      refine ⟨A6, c6, rfl, L', ⟨?_, H6.out.1, H6.out.2.1, H6.out.2.2, fun v xs hm => ?_⟩, by rw [HO.out.2.1, ht], HO.out.2.2.2⟩
      · have := HO.out.1.1.1
        simpa [vals] using this
      · exact (HO.out.2.2.1 _ hm).rd
end Go.Proofs.Ytdokijdbefannaa
