/- The walk of the law DerWrites. -/
import Derived.Test.YtadkiildjehdmaaApart3
import Derived.Test.YtadkiildjehdmaaApart5
import Derived.Test.YtadkiildjehdmaaPlain1
import Derived.Test.YtadkiildjehdmaaWorks
import Derived.Test.YtadkiildjehdmaaDer5
import Derived.Test.YtadkiildjehdmaaRef3
import Derived.Test.YtadkiildjehdmaaOpen
namespace Go.Proofs.Ytadkiildjehdmaa
open Go.RowKit
set_option maxRecDepth 1000000
set_option linter.unusedVariables false
set_option linter.unusedSimpArgs false

def WritesPost (w : World) (e : Ending) (w' : World) : Prop := e = .returned (.bool true) ∧ Below w.heap.size w w'

theorem writes_large1 (t : Int) (A1 A2 : Option Addr) (n1 c1 n2 c2 : Nat) (w : World) (hn : (131072 : Int) < n1) :
    Calls Try.prog 4 #[.int .u8 t, .slice A1 n1 c1, .slice A2 n2 c2] w (WritesPost w) := by
  go_enter Try.func4, Try.ntmps4
  go_wp2_with fail
  refine (works_any _).mono ?_
  rintro e w1 ⟨rfl, hb1⟩
  go_wp2
  go_ret
  exact ⟨rfl, hb1⟩
theorem writes_large2 (t : Int) (A1 A2 : Option Addr) (n1 c1 n2 c2 : Nat) (w : World) (hn1 : ¬ (131072 : Int) < n1) (hn : (131072 : Int) < n2) :
    Calls Try.prog 4 #[.int .u8 t, .slice A1 n1 c1, .slice A2 n2 c2] w (WritesPost w) := by
  go_enter Try.func4, Try.ntmps4
  go_wp2_with fail
  refine (works_any _).mono ?_
  rintro e w1 ⟨rfl, hb1⟩
  go_wp2
  go_ret
  exact ⟨rfl, hb1⟩

theorem RdL.none_ (w : World) (B : Nat) : RdL w B none 0 0 [] := ⟨rfl, Nat.le_refl _, by omega, Reads.none_, fun v xs h => by cases h⟩

theorem reads_four (w : World) (t : TypeId) (a b c d : Value) : ∀ (j : Nat) (p : Value), [a, b, c, d][j]? = some p → #[a, b, c, d][j]? = some p := by
  intro j p h
  rw [← List.getElem?_toArray] at h
  exact h

set_option maxHeartbeats 4000000 in
theorem writes_main (t : UInt8) (A1 A2 : Option Addr) (n1 c1 n2 c2 : Nat) (a b : List UInt8) (w : World) (ha : Rd w w.heap.size A1 n1 c1 a) (hb : Rd w w.heap.size A2 n2 c2 b) (hn1 : ¬ (131072 : Int) < n1) (hn2 : ¬ (131072 : Int) < n2) :
    Calls Try.prog 4 #[.int .u8 (t.toNat : Int), .slice A1 n1 c1, .slice A2 n2 c2] w (WritesPost w) := by
  have hla := ha.len
  have hlb := hb.len
  have hwl := Der.write_len t a
  have hbl := Der.lenB_len a.length (by omega)
  have HE := Lib.hid (And.intro ha (And.intro hb (And.intro hla (And.intro hlb (show (Der.write t a).length ≤ 200000 by omega)))))
  clear ha hb hla hlb hwl hbl
  go_enter Try.func4, Try.ntmps4
  go_wp2_with fail
  refine (roomy_any A1 n1 c1 a _ HE.out.1 (by omega)).mono ?_
  rintro e w1 ⟨v1, rfl, hR1, hb1⟩
  obtain ⟨A3, n3, c3, rfl, hr1⟩ := hR1.own.rd
  have hn3 : n3 = n1 := by rw [← hr1.len, HE.out.2.2.1]
  subst hn3
  have hs1 := hb1.size
  have H1 := Lib.hid (And.intro hR1 (And.intro hr1 (And.intro hb1 (HE.out.2.1.up hb1))))
  clear hR1 hr1 hb1
  go_wp2_with fail
  refine (write_any t _ n3 c3 _ _ H1.out.2.1 (by omega)).mono ?_
  rintro e w2 ⟨A4, n4, c4, rfl, ho4, hb2⟩
  have hs2 := hb2.size
  have H2 := Lib.hid (And.intro ho4 (And.intro hb2 (And.intro (H1.out.2.1.up hb2) (H1.out.2.2.2.up hb2))))
  clear ho4 hb2
  have hj := RdL.lit w2 22 [(.slice A3 n3 c3, a), (.slice A2 n2 c2, b), (.slice A3 n3 c3, a)] [.slice A3 n3 c3, .slice A2 n2 c2, .slice A3 n3 c3] _ 3 rfl rfl rfl (by omega)
    (fun v ys hm => by
      simp only [List.mem_cons, Prod.mk.injEq, List.not_mem_nil, or_false] at hm
      rcases hm with ⟨rfl, rfl⟩ | ⟨rfl, rfl⟩ | ⟨rfl, rfl⟩
      · exact RdV.mk H2.out.2.2.1
      · exact RdV.mk H2.out.2.2.2
      · exact RdV.mk H2.out.2.2.1)
  have hcat : cat [(Value.slice A3 n3 c3, a), (.slice A2 n2 c2, b), (.slice A3 n3 c3, a)] = a ++ (b ++ a) := by simp [cat]
  have hcl : (a ++ (b ++ a)).length ≤ 400000 := by simp only [List.length_append]; have := HE.out.2.2; omega
  have HJ := Lib.hid (And.intro hj (And.intro hcat hcl))
  clear hj hcat hcl
  go_wp2_with fail
  refine (join_any _ 3 3 _ _ HJ.out.1 (by omega) (by rw [HJ.out.2.1]; have := HJ.out.2.2; omega)).mono ?_
  rw [HJ.out.2.1]
  rintro e w3 ⟨A5, n5, c5, rfl, ho5, hb3⟩
  have hs3 := hb3.size
  simp at hs3
  have hb23 : Below w2.heap.size w2 w3 := Below.trans (by (repeat (first | exact Below.refl _ _ | assumption | (refine Below.setCell ?_ (by first | omega | (simp; done) | (simp; omega)) _) | (refine Below.alloc ?_ (by first | omega | (simp; done) | (simp; omega)) _) | (refine below_drewN ?_ _) | (refine Below.drew ?_)))) (hb3.mono (by first | omega | (simp; done) | (simp; omega)))
  have hbw3 : Below w.heap.size w w3 := H1.out.2.2.1.trans ((H2.out.2.1.trans (hb23.mono hs2)).mono hs1)
  have H3 := Lib.hid (And.intro (ho5.mono (lo' := w2.heap.size) (by simp) (Nat.le_refl _)) (And.intro hb23 (And.intro hbw3 (And.intro (HE.out.1.up hbw3) (HE.out.2.1.up hbw3)))))
  clear ho5 hb3 hb23 hbw3
  go_wp2_with fail
  refine (refWrite_any t _ n3 c1 _ _ H3.out.2.2.2.1 (by omega)).mono ?_
  rintro e w4 ⟨A6, n6, c6, rfl, ho6, hb4⟩
  have hs4 := hb4.size
  have H4 := Lib.hid (And.intro (Rd.of_own ho6) (And.intro hb4 ((Rd.of_own H2.out.1).up (H3.out.2.1.trans (hb4.mono (by omega))))))
  clear ho6 hb4
  go_wp2_with fail
  refine (eqbytes_same _ _ _ _ _ _ _ _ _ _ H4.out.2.2 H4.out.1).mono ?_
  rintro e w4 ⟨rfl, rfl⟩
  have hj := RdL.lit w4 22 [(.slice A1 n3 c1, a), (.slice A2 n2 c2, b), (.slice A1 n3 c1, a)] [.slice A1 n3 c1, .slice A2 n2 c2, .slice A1 n3 c1] _ 3 rfl rfl rfl (by omega)
    (fun v ys hm => by
      simp only [List.mem_cons, Prod.mk.injEq, List.not_mem_nil, or_false] at hm
      rcases hm with ⟨rfl, rfl⟩ | ⟨rfl, rfl⟩ | ⟨rfl, rfl⟩
      · exact RdV.mk (H3.out.2.2.2.1.up H4.out.2.1)
      · exact RdV.mk (H3.out.2.2.2.2.up H4.out.2.1)
      · exact RdV.mk (H3.out.2.2.2.1.up H4.out.2.1))
  have hcat : cat [(Value.slice A1 n3 c1, a), (.slice A2 n2 c2, b), (.slice A1 n3 c1, a)] = a ++ (b ++ a) := by simp [cat]
  have HJ2 := Lib.hid (And.intro hj hcat)
  clear hj hcat
  go_wp2_with fail
  refine (refJoin_any _ 3 3 _ _ HJ2.out.1 (by omega) (by rw [HJ2.out.2]; have := HJ.out.2.2; omega)).mono ?_
  rw [HJ2.out.2]
  rintro e w5 ⟨A7, n7, c7, rfl, ho7, hb5⟩
  have hs5 := hb5.size
  simp at hs5
  have hb35 : Below w3.heap.size w3 w5 := H4.out.2.1.trans ((Below.trans (by (repeat (first | exact Below.refl _ _ | assumption | (refine Below.setCell ?_ (by first | omega | (simp; done) | (simp; omega)) _) | (refine Below.alloc ?_ (by first | omega | (simp; done) | (simp; omega)) _) | (refine below_drewN ?_ _) | (refine Below.drew ?_)))) (hb5.mono (by first | omega | (simp; done) | (simp; omega)))).mono hs4)
  have H5 := Lib.hid (And.intro (Rd.of_own ho7) (And.intro hb35 ((Rd.of_own H3.out.1).up hb35)))
  clear ho7 hb5 hb35
  go_wp2_with fail
  refine (eqbytes_same _ _ _ _ _ _ _ _ _ _ H5.out.2.2 H5.out.1).mono ?_
  rintro e w5 ⟨rfl, rfl⟩
  have hb15 : Below w1.heap.size w1 w5 := H2.out.2.1.trans ((H3.out.2.1.trans (H5.out.2.1.mono (by omega))).mono hs2)
  have HK := Lib.hid (And.intro (H1.out.1.below hb15 (Nat.le_refl _)) (And.intro (H3.out.2.2.2.1.up H5.out.2.1) hb15))
  clear hb15
  go_wp2_with fail
  refine (kept_any _ _ _ _ _ _ _ _ _ HK.out.1 HK.out.2.1 (by omega)).mono ?_
  rintro e w5 ⟨rfl, rfl⟩
  go_wp2_with fail
  refine (join_any none 0 0 [] _ (RdL.none_ _ _) (by omega) (by simp [cat])).mono ?_
  rintro e w6 ⟨A8, n8, c8, rfl, ho8, hb6⟩
  obtain rfl : n8 = 0 := by have := (Rd.of_own ho8).len; simpa [cat] using this.symm
  have hs6 := hb6.size
  have hb16 : Below w1.heap.size w1 w6 := HK.out.2.2.trans (hb6.mono (by omega))
  have hb36 : Below w3.heap.size w3 w6 := H5.out.2.1.trans (hb6.mono (by omega))
  have H6 := Lib.hid (And.intro hb16 (And.intro hb36 (H1.out.1.below hb16 (Nat.le_refl _))))
  clear ho8 hb6 hb16 hb36
  have hj := RdL.lit w6 22 [(.slice A3 n3 c3, a)] [.slice A3 n3 c3] _ 1 rfl rfl rfl (by omega)
    (fun v ys hm => by
      simp only [List.mem_cons, Prod.mk.injEq, List.not_mem_nil, or_false] at hm
      obtain ⟨rfl, rfl⟩ := hm
      exact RdV.mk (H1.out.2.1.up H6.out.1))
  have hcat : cat [(Value.slice A3 n3 c3, a)] = a := by simp [cat]
  have HJ3 := Lib.hid (And.intro hj hcat)
  clear hj hcat
  go_wp2_with fail
  refine (join_any _ 1 1 _ _ HJ3.out.1 (by omega) (by rw [HJ3.out.2]; have := HE.out.2.2; omega)).mono ?_
  rw [HJ3.out.2]
  rintro e w7 ⟨A9, n9, c9, rfl, ho9, hb7⟩
  have hs7 := hb7.size
  simp at hs7
  have hb67 : Below w6.heap.size w6 w7 := Below.trans (by (repeat (first | exact Below.refl _ _ | assumption | (refine Below.setCell ?_ (by first | omega | (simp; done) | (simp; omega)) _) | (refine Below.alloc ?_ (by first | omega | (simp; done) | (simp; omega)) _) | (refine below_drewN ?_ _) | (refine Below.drew ?_)))) (hb7.mono (by first | omega | (simp; done) | (simp; omega)))
  have hb17 : Below w1.heap.size w1 w7 := H6.out.1.trans (hb67.mono (by omega))
  have hb37 : Below w3.heap.size w3 w7 := H6.out.2.1.trans (hb67.mono (by omega))
  have hrows : Owns w7 w1.heap.size w7.heap.size [(.slice A4 n4 c4, Der.write t a), (.slice A5 n5 c5, a ++ (b ++ a)), (.slice A9 n9 c9, a)] :=
    ⟨w2.heap.size, hs2, (H2.out.1.below (H3.out.2.1.trans (hb37.mono (by omega))) (Nat.le_refl _)), w3.heap.size, by omega, H3.out.1.below hb37 (Nat.le_refl _), w7.heap.size, by omega, ho9.mono (by simp; omega) (Nat.le_refl _), Nat.le_refl _⟩
  have hin7 := H6.out.2.2.below hb67 (by omega)
  have hap := apart_back (l := [(Value.slice A3 n3 c3, a)]) (lo := w.heap.size) (mid := w1.heap.size) (fun p hp => by obtain rfl := List.mem_singleton.1 hp; exact hin7.own) (Owns.rows hrows) (by simp [Apart']) (Owns.apart hrows)
  have hblk := Blk.new w7 22 #[.slice A4 n4 c4, .slice A5 n5 c5, .slice A9 n9 c9, .slice A3 n3 c3]
  have hin : ApIn (w7.alloc (.cells #[.slice A4 n4 c4, .slice A5 n5 c5, .slice A9 n9 c9, .slice A3 n3 c3] 22)) w.heap.size w7.heap.size w7.heap.size 4 #[.slice A4 n4 c4, .slice A5 n5 c5, .slice A9 n9 c9, .slice A3 n3 c3] ([(.slice A4 n4 c4, Der.write t a), (.slice A5 n5 c5, a ++ (b ++ a)), (.slice A9 n9 c9, a)] ++ [(.slice A3 n3 c3, a)]) := {
    blk := hblk
    above := Nat.le_refl _
    len := rfl
    cells := fun j p hp => reads_four w7 0 _ _ _ _ j p.1 (by
      have := congrArg (Option.map (·.1)) hp
      rw [← List.getElem?_map] at this
      exact this)
    rows := fun p hp => by
      rcases List.mem_append.1 hp with hp | hp
      · exact ((Owns.rows hrows p hp).alloc (Nat.le_refl _) _).mono (by omega) (Nat.le_refl _)
      · obtain rfl := List.mem_singleton.1 hp
        exact (hin7.own.alloc (by omega) _).mono (Nat.le_refl _) (by omega)
    apart := hap
    lo_ := by omega
    size := by omega
    sizes := fun p hp => by
      have h1 := HE.out.2.2
      have h2 := HJ.out.2.2
      simp only [List.cons_append, List.nil_append, List.mem_cons, List.not_mem_nil, or_false] at hp
      rcases hp with rfl | rfl | rfl | rfl <;> dsimp only <;> omega }
  have hbw7 : Below w.heap.size w w7 := H1.out.2.2.1.trans (hb17.mono hs1)
  have HI := Lib.hid (And.intro hin hbw7)
  clear hin hbw7 hblk hap hin7 hrows hb67 hb17 hb37 hb7 ho9
  go_wp2_with fail
  refine (Apart_any _ _ _ _ _ _ _ _ HI.out.1).mono ?_
  rintro e w8 ⟨rfl, hb8⟩
  have hbw8 : Below w.heap.size w w8 := HI.out.2.trans (Below.trans (Below.alloc (Below.refl _ _) (by omega) _) hb8)
  go_wp2_with fail
  refine (works_any _).mono ?_
  rintro e w9 ⟨rfl, hb9⟩
  go_wp2
  go_ret
  exact ⟨rfl, hbw8.trans (hb9.mono hbw8.size)⟩

theorem derWrites_walk (w : World) (a0 : Int) (w0 : (Lit.int .u8 a0).wf = true) (A1 : Option Addr) (n1 c1 : Nat) (a : List UInt8) (ha : Rd w w.heap.size A1 n1 c1 a) (A2 : Option Addr) (n2 c2 : Nat) (b : List UInt8) (hb : Rd w w.heap.size A2 n2 c2 b) :
    Calls Try.prog 4 #[.int .u8 a0, .slice A1 n1 c1, .slice A2 n2 c2] w fun e w' => e = .returned (.bool true) ∧ Below w.heap.size w w' := by
  by_cases h3 : (131072 : Int) < n1
  · exact writes_large1 a0 A1 A2 n1 c1 n2 c2 w h3
  by_cases h4 : (131072 : Int) < n2
  · exact writes_large2 a0 A1 A2 n1 c1 n2 c2 w h3 h4
  have := writes_main (UInt8.ofNat a0.toNat) A1 A2 n1 c1 n2 c2 a b w ha hb h3 h4
  rw [u8_of_wf w0] at this
  exact this
end Go.Proofs.Ytadkiildjehdmaa
