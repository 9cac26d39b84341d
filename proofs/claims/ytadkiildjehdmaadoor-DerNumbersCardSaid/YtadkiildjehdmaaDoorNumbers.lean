/- The walk of the law DerNumbers. -/
import Derived.Test.YtadkiildjehdmaaDoorRefPutInt
import Derived.Test.YtadkiildjehdmaaDoorRefInt
import Derived.Test.YtadkiildjehdmaaDoorRefBits
import Derived.Test.YtadkiildjehdmaaDoorApart3
import Derived.Test.YtadkiildjehdmaaDoorApart5
import Derived.Test.YtadkiildjehdmaaDoorWorks
namespace Go.Proofs.YtadkiildjehdmaaDoor
open Go.RowKit
set_option maxRecDepth 1000000
set_option linter.unusedVariables false
set_option linter.unusedSimpArgs false

def NumbersPost (w : World) (e : Ending) (w' : World) : Prop := e = .returned (.bool true) ∧ Below w.heap.size w w'

theorem numbers_large (A : Option Addr) (n c : Nat) (w : World) (hn : (8192 : Int) < n) :
    Calls Tryd.prog 4 #[.slice A n c] w (NumbersPost w) := by
  go_enter Tryd.func4, Tryd.ntmps4
  go_wp2_with fail
  refine (large_any A n c _).mono ?_
  rintro e w1 ⟨he, rfl⟩
  rw [decide_eq_true hn] at he
  subst he
  go_wp2_with fail
  refine (works_any _).mono ?_
  rintro e w1 ⟨rfl, hb1⟩
  go_wp2
  go_ret
  exact ⟨rfl, hb1⟩

theorem IntPost.one {xs : List UInt8} {w w' : World} {e : Ending} (h : IntPost xs w e w') :
    ∃ A n c, e = .returned (.tuple #[.slice A n c, .bool (Der.int xs).isSome]) ∧ OwnB w' w.heap.size w'.heap.size (.slice A n c) ((Der.int xs).getD []) ∧ Below w.heap.size w w' := by
  obtain ⟨hb, ⟨hno, rfl⟩ | ⟨ys, A, n, c, hs, rfl, ho⟩⟩ := h
  · exact ⟨none, 0, 0, by rw [hno]; rfl, by rw [hno]; exact OwnB.nil_, hb⟩
  · exact ⟨A, n, c, by rw [hs]; rfl, by rw [hs]; exact ho, hb⟩
theorem BitsPost.one {xs : List UInt8} {w w' : World} {e : Ending} (h : BitsPost xs w e w') :
    ∃ A n c, e = .returned (.tuple #[.slice A n c, .int .i64 ((((Der.bits xs).getD ([], 0)).2 : Nat) : Int), .bool (Der.bits xs).isSome]) ∧ OwnB w' w.heap.size w'.heap.size (.slice A n c) ((Der.bits xs).getD ([], 0)).1 ∧ Below w.heap.size w w' := by
  obtain ⟨hb, ⟨hno, rfl⟩ | ⟨ys, k, A, n, c, hs, rfl, ho⟩⟩ := h
  · exact ⟨none, 0, 0, by rw [hno]; rfl, by rw [hno]; exact OwnB.nil_, hb⟩
  · exact ⟨A, n, c, by rw [hs]; rfl, by rw [hs]; exact ho, hb⟩
theorem int_len (xs : List UInt8) : ((Der.int xs).getD []).length ≤ xs.length := by
  match xs with
  | [] => simp [Der.int]
  | [b0] =>
    by_cases h1 : 128 ≤ b0.toNat
    · simp [Der.int, h1]
    · by_cases h2 : b0.toNat = 0 <;> simp [Der.int, h1, h2]
  | b0 :: b1 :: r =>
    by_cases h1 : 128 ≤ b0.toNat
    · simp [Der.int, h1]
    · by_cases h2 : b0.toNat = 0
      · by_cases h3 : b1.toNat < 128 <;> simp [Der.int, h2, h3]
      · simp [Der.int, h1, h2]
theorem bits_len (xs : List UInt8) : ((Der.bits xs).getD ([], 0)).1.length ≤ xs.length := by
  match xs with
  | [] => simp [Der.bits]
  | b0 :: r =>
    by_cases h1 : 7 < b0.toNat ∨ (0 < b0.toNat ∧ r = [])
    · rw [Der.bits, if_pos h1]; simp
    · by_cases h2 : ((b0 :: r).getLastD 0).toNat % 2 ^ b0.toNat = 0
      · rw [Der.bits, if_neg h1, if_pos h2]; simp
      · rw [Der.bits, if_neg h1, if_neg h2]; simp

set_option maxHeartbeats 4000000 in
theorem numbers_main (A : Option Addr) (n c : Nat) (xs : List UInt8) (w : World) (h : Rd w w.heap.size A n c xs) (hn : ¬ (8192 : Int) < n) :
    Calls Tryd.prog 4 #[.slice A n c] w (NumbersPost w) := by
  have hl := h.len
  have hil := int_len xs
  have hbl := bits_len xs
  have hpl : (Der.putInt xs).length ≤ xs.length + 1 := by have := trim_len xs; unfold Der.putInt; split; (rw [List.length_cons]; omega); omega
  obtain ⟨I, hI⟩ : ∃ I, (Der.int xs).getD [] = I := ⟨_, rfl⟩
  obtain ⟨is, his⟩ : ∃ is, (Der.int xs).isSome = is := ⟨_, rfl⟩
  obtain ⟨T, hT⟩ : ∃ T, ((Der.bits xs).getD ([], 0)).1 = T := ⟨_, rfl⟩
  obtain ⟨u, hu⟩ : ∃ u, ((Der.bits xs).getD ([], 0)).2 = u := ⟨_, rfl⟩
  obtain ⟨fi, hfi⟩ : ∃ fi, (Der.bits xs).isSome = fi := ⟨_, rfl⟩
  rw [hI] at hil
  rw [hT] at hbl
  have H := Lib.hid (And.intro h hl)
  have HS := Lib.hid (And.intro hI (And.intro his (And.intro hT (And.intro hu (And.intro hfi (And.intro hil (And.intro hbl hpl)))))))
  clear h hl hI his hT hu hfi hil hbl hpl
  go_enter Tryd.func4, Tryd.ntmps4
  go_wp2_with fail
  refine (large_any A n c _).mono ?_
  rintro e w ⟨he, rfl⟩
  rw [decide_eq_false (show ¬ (8192 : Int) < n by omega)] at he
  subst he
  go_wp2_with fail
  refine (roomy_any A n c xs _ H.out.1 (by omega)).mono ?_
  rintro e w1 ⟨v1, rfl, hR1, hb1⟩
  obtain ⟨A1, n1, c1, rfl, hr1⟩ := hR1.own.rd
  have hn1 : n1 = n := by rw [← hr1.len, H.out.2]
  subst hn1
  have H1 := Lib.hid (And.intro hR1 (And.intro hr1 (And.intro hb1 (H.out.1.up hb1))))
  have hs1 := hb1.size
  clear hR1 hr1 hb1
  go_wp2_with fail
  refine (int_any A1 n1 c1 xs _ H1.out.2.1 (by omega)).mono ?_
  rintro e w2 hp
  obtain ⟨A2, n2, c2, rfl, ho2, hb2⟩ := hp.one
  clear hp
  rw [HS.out.1] at ho2
  rw [HS.out.2.1]
  have hs2 := hb2.size
  have H2 := Lib.hid (And.intro ho2 (And.intro hb2 (And.intro (H1.out.2.1.up hb2) (H1.out.2.2.2.up hb2))))
  clear ho2 hb2
  go_wp2_with fail
  refine (refInt_any A n1 c xs _ H2.out.2.2.2 (by omega)).mono ?_
  rintro e w3 hp
  obtain ⟨A3, n3, c3, rfl, ho3, hb3⟩ := hp.one
  clear hp
  rw [HS.out.1] at ho3
  rw [HS.out.2.1]
  have hs3 := hb3.size
  have H3 := Lib.hid (And.intro (Rd.of_own ho3) (And.intro hb3 (And.intro (H2.out.2.2.1.up hb3) (H2.out.2.2.2.up hb3))))
  clear ho3 hb3
  go_wp2_with fail
  refine (putInt_any A1 n1 c1 xs _ H3.out.2.2.1 (by omega)).mono ?_
  rintro e w4 ⟨A4, n4, c4, rfl, ho4, hb4⟩
  have hs4 := hb4.size
  have H4 := Lib.hid (And.intro ho4 (And.intro hb4 (And.intro (H3.out.2.2.1.up hb4) (H3.out.2.2.2.up hb4))))
  clear ho4 hb4
  go_wp2_with fail
  refine (bits_any A1 n1 c1 xs _ H4.out.2.2.1 (by omega)).mono ?_
  rintro e w5 hp
  obtain ⟨A5, n5, c5, rfl, ho5, hb5⟩ := hp.one
  clear hp
  rw [HS.out.2.2.1] at ho5
  rw [HS.out.2.2.2.1, HS.out.2.2.2.2.1]
  have hs5 := hb5.size
  have H5 := Lib.hid (And.intro ho5 (And.intro hb5 (And.intro (H4.out.2.2.1.up hb5) (H4.out.2.2.2.up hb5))))
  clear ho5 hb5
  go_wp2_with fail
  refine (refBits_any A n1 c xs _ H5.out.2.2.2 (by omega)).mono ?_
  rintro e w6 hp
  obtain ⟨A6, n6, c6, rfl, ho6, hb6⟩ := hp.one
  clear hp
  rw [HS.out.2.2.1] at ho6
  rw [HS.out.2.2.2.1, HS.out.2.2.2.2.1]
  have hs6 := hb6.size
  have hb36 : Below w3.heap.size w3 w6 := H4.out.2.1.trans ((H5.out.2.1.trans (hb6.mono hs5)).mono hs4)
  have hb26 : Below w2.heap.size w2 w6 := H3.out.2.1.trans (hb36.mono hs3)
  have hb56 : Below w5.heap.size w5 w6 := hb6
  have hb46 : Below w4.heap.size w4 w6 := H5.out.2.1.trans (hb6.mono hs5)
  have H6 := Lib.hid (And.intro (Rd.of_own ho6) (And.intro hb6 (And.intro (H5.out.2.2.2.up hb6) (And.intro hb26 (And.intro hb36 (And.intro hb46 hb56))))))
  clear ho6 hb6 hb36 hb26 hb56 hb46
  go_wp2_with fail
  refine (eqbytes_same _ _ _ _ _ _ _ _ _ _ ((Rd.of_own H2.out.1).up H6.out.2.2.2.1) (H3.out.1.up H6.out.2.2.2.2.1)).mono ?_
  rintro e w6 ⟨rfl, rfl⟩
  go_wp2_with fail
  refine (refPutInt_any A n1 c xs _ H6.out.2.2.1 (by omega)).mono ?_
  rintro e w7 ⟨A7, n7, c7, rfl, ho7, hb7⟩
  have hs7 := hb7.size
  have hb57 : Below w5.heap.size w5 w7 := H6.out.2.2.2.2.2.2.trans (hb7.mono hs6)
  have hb47 : Below w4.heap.size w4 w7 := H6.out.2.2.2.2.2.1.trans (hb7.mono (by omega))
  have hb27 : Below w2.heap.size w2 w7 := H6.out.2.2.2.1.trans (hb7.mono (by omega))
  have hb17 : Below w1.heap.size w1 w7 := H2.out.2.1.trans (hb27.mono hs2)
  have hbw7 : Below w.heap.size w w7 := H1.out.2.2.1.trans (hb17.mono hs1)
  have H7 := Lib.hid (And.intro (Rd.of_own ho7) (And.intro (H6.out.1.up hb7) (And.intro (H6.out.2.2.1.up hb7) (And.intro hb57 (And.intro hb47 (And.intro hb27 (And.intro hb17 hbw7)))))))
  clear ho7 hb7 hb57 hb47 hb27 hb17 hbw7
  go_wp2_with fail
  refine (eqbytes_same _ _ _ _ _ _ _ _ _ _ ((Rd.of_own H4.out.1).up H7.out.2.2.2.2.1) H7.out.1).mono ?_
  rintro e w7 ⟨rfl, rfl⟩
  go_wp2_with fail
  refine (eqbytes_same _ _ _ _ _ _ _ _ _ _ ((Rd.of_own H5.out.1).up H7.out.2.2.2.1) H7.out.2.1).mono ?_
  rintro e w7 ⟨rfl, rfl⟩
  go_wp2_with fail
  refine (kept_any _ _ _ _ _ _ _ _ _ (H1.out.1.below H7.out.2.2.2.2.2.2.1 (Nat.le_refl _)) H7.out.2.2.1 (by omega)).mono ?_
  rintro e w7 ⟨rfl, rfl⟩
  have hrows : Owns w7 w1.heap.size w7.heap.size [(.slice A2 n2 c2, I), (.slice A4 n4 c4, Der.putInt xs), (.slice A5 n5 c5, T)] :=
    ⟨w2.heap.size, hs2, H2.out.1.below H7.out.2.2.2.2.2.1 (Nat.le_refl _), w4.heap.size, by omega, (H4.out.1.below H7.out.2.2.2.2.1 (Nat.le_refl _)).mono hs3 (Nat.le_refl _), w5.heap.size, hs5, H5.out.1.below H7.out.2.2.2.1 (Nat.le_refl _), show w5.heap.size ≤ w7.heap.size from by omega⟩
  have hin7 := H1.out.1.below H7.out.2.2.2.2.2.2.1 (Nat.le_refl _)
  have hap := apart_back (l := [(Value.slice A1 n1 c1, xs)]) (lo := w.heap.size) (mid := w1.heap.size) (fun p hp => by obtain rfl := List.mem_singleton.1 hp; exact hin7.own) (Owns.rows hrows) (by simp [Apart']) (Owns.apart hrows)
  have hblk := Blk.new w7 22 #[.slice A2 n2 c2, .slice A4 n4 c4, .slice A5 n5 c5, .slice A1 n1 c1]
  have hin : ApIn (w7.alloc (.cells #[.slice A2 n2 c2, .slice A4 n4 c4, .slice A5 n5 c5, .slice A1 n1 c1] 22)) w.heap.size w7.heap.size w7.heap.size 4 #[.slice A2 n2 c2, .slice A4 n4 c4, .slice A5 n5 c5, .slice A1 n1 c1] ([(.slice A2 n2 c2, I), (.slice A4 n4 c4, Der.putInt xs), (.slice A5 n5 c5, T)] ++ [(.slice A1 n1 c1, xs)]) := {
    blk := hblk
    above := Nat.le_refl _
    len := rfl
    cells := fun j p hp => by
      have := congrArg (Option.map (·.1)) hp
      rw [← List.getElem?_map] at this
      rw [← List.getElem?_toArray] at this
      exact this
    rows := fun p hp => by
      rcases List.mem_append.1 hp with hp | hp
      · exact ((Owns.rows hrows p hp).alloc (Nat.le_refl _) _).mono (by omega) (Nat.le_refl _)
      · obtain rfl := List.mem_singleton.1 hp
        exact (hin7.own.alloc (by omega) _).mono (Nat.le_refl _) (by omega)
    apart := hap
    lo_ := by omega
    size := by omega
    sizes := fun p hp => by
      have h1 := HS.out.2.2.2.2.2
      have h2 := H.out.2
      simp only [List.cons_append, List.nil_append, List.mem_cons, List.not_mem_nil, or_false] at hp
      rcases hp with rfl | rfl | rfl | rfl <;> dsimp only <;> omega }
  have HI := Lib.hid hin
  clear hin hblk hap hin7 hrows
  go_wp2_with fail
  refine (Apart_any _ _ _ _ _ _ _ _ HI.out).mono ?_
  rintro e w8 ⟨rfl, hb8⟩
  have hbw8 : Below w.heap.size w w8 := H7.out.2.2.2.2.2.2.2.trans (Below.trans (Below.alloc (Below.refl _ _) (by omega) _) hb8)
  go_wp2_with fail
  refine (works_any _).mono ?_
  rintro e w9 ⟨rfl, hb9⟩
  go_wp2
  go_ret
  exact ⟨rfl, hbw8.trans (hb9.mono hbw8.size)⟩

theorem derNumbers_walk (w : World) (A : Option Addr) (n c : Nat) (xs : List UInt8) (h : Rd w w.heap.size A n c xs) :
    Calls Tryd.prog 4 #[.slice A n c] w fun e w' => e = .returned (.bool true) ∧ Below w.heap.size w w' := by
  by_cases hn : (8192 : Int) < n
  · exact numbers_large A n c w hn
  · exact numbers_main A n c xs w h hn
end Go.Proofs.YtadkiildjehdmaaDoor
