/- The walk of the law DerPrefixes. -/
import Derived.Test.YtadkiildjehdmaaPrefix1
import Derived.Test.YtadkiildjehdmaaApart5
import Derived.Test.YtadkiildjehdmaaElems
import Derived.Test.YtadkiildjehdmaaAll2
import Derived.Test.YtadkiildjehdmaaWorks
import Derived.Test.YtadkiildjehdmaaDer5
import Derived.Test.YtadkiildjehdmaaOpen
namespace Go.Proofs.Ytadkiildjehdmaa
open Go.RowKit
set_option maxRecDepth 1000000
set_option linter.unusedVariables false
set_option linter.unusedSimpArgs false

def PrefixPost (w : World) (e : Ending) (w' : World) : Prop := e = .returned (.bool true) ∧ Below w.heap.size w w'

theorem prefix_tag (t : UInt8) (A1 A2 : Option Addr) (n1 c1 n2 c2 : Nat) (a : Int) (w : World) (h : ((t.toNat : Int) % 32 == 31) = true) :
    Calls Try.prog 8 #[.agg #[.int .u8 (t.toNat : Int), .slice A1 n1 c1, .slice A2 n2 c2, .int .i64 a]] w (PrefixPost w) := by
  go_enter Try.func8, Try.ntmps8
  go_wp2_with fail
  refine (works_any _).mono ?_
  rintro e w1 ⟨rfl, hb1⟩
  go_wp2
  go_ret
  exact ⟨rfl, Below.trans (by (repeat (first | exact Below.refl _ _ | assumption | (refine Below.setCell ?_ (by first | omega | (simp; done) | (simp; omega)) _) | (refine Below.alloc ?_ (by first | omega | (simp; done) | (simp; omega)) _) | (refine below_drewN ?_ _) | (refine Below.drew ?_)))) (hb1.mono (by first | omega | (simp; done) | (simp; omega)))⟩
theorem prefix_large1 (t : UInt8) (A1 A2 : Option Addr) (n1 c1 n2 c2 : Nat) (a : Int) (w : World) (h1 : ((t.toNat : Int) % 32 == 31) = false) (hn : (8192 : Int) < n1) :
    Calls Try.prog 8 #[.agg #[.int .u8 (t.toNat : Int), .slice A1 n1 c1, .slice A2 n2 c2, .int .i64 a]] w (PrefixPost w) := by
  go_enter Try.func8, Try.ntmps8
  go_wp2_with fail
  refine (large_any _ n1 c1 _).mono ?_
  rintro e w1 ⟨he, rfl⟩
  rw [decide_eq_true (show (8192 : Int) < n1 by omega)] at he
  subst he
  go_wp2_with fail
  refine (works_any _).mono ?_
  rintro e w1 ⟨rfl, hb1⟩
  go_wp2
  go_ret
  exact ⟨rfl, Below.trans (by (repeat (first | exact Below.refl _ _ | assumption | (refine Below.setCell ?_ (by first | omega | (simp; done) | (simp; omega)) _) | (refine Below.alloc ?_ (by first | omega | (simp; done) | (simp; omega)) _) | (refine below_drewN ?_ _) | (refine Below.drew ?_)))) (hb1.mono (by first | omega | (simp; done) | (simp; omega)))⟩
theorem prefix_large2 (t : UInt8) (A1 A2 : Option Addr) (n1 c1 n2 c2 : Nat) (a : Int) (w : World) (h1 : ((t.toNat : Int) % 32 == 31) = false) (hn1 : ¬ (8192 : Int) < n1) (hn : (8192 : Int) < n2) :
    Calls Try.prog 8 #[.agg #[.int .u8 (t.toNat : Int), .slice A1 n1 c1, .slice A2 n2 c2, .int .i64 a]] w (PrefixPost w) := by
  go_enter Try.func8, Try.ntmps8
  go_wp2_with fail
  refine (large_any _ n1 c1 _).mono ?_
  rintro e w1 ⟨he, rfl⟩
  rw [decide_eq_false (show ¬ (8192 : Int) < n1 by omega)] at he
  subst he
  go_wp2_with fail
  refine (large_any _ n2 c2 _).mono ?_
  rintro e w1 ⟨he, rfl⟩
  rw [decide_eq_true (show (8192 : Int) < n2 by omega)] at he
  subst he
  go_wp2_with fail
  refine (works_any _).mono ?_
  rintro e w1 ⟨rfl, hb1⟩
  go_wp2
  go_ret
  exact ⟨rfl, Below.trans (by (repeat (first | exact Below.refl _ _ | assumption | (refine Below.setCell ?_ (by first | omega | (simp; done) | (simp; omega)) _) | (refine Below.alloc ?_ (by first | omega | (simp; done) | (simp; omega)) _) | (refine below_drewN ?_ _) | (refine Below.drew ?_)))) (hb1.mono (by first | omega | (simp; done) | (simp; omega)))⟩

set_option maxHeartbeats 4000000 in
theorem prefix_main (t : UInt8) (A1 A2 : Option Addr) (n1 c1 n2 c2 : Nat) (at_ : Int) (b more : List UInt8) (w : World) (hb : Rd w w.heap.size A1 n1 c1 b) (hm : Rd w w.heap.size A2 n2 c2 more) (h1 : ((t.toNat : Int) % 32 == 31) = false)
    (hn1 : ¬ (8192 : Int) < n1) (hn2 : ¬ (8192 : Int) < n2) :
    Calls Try.prog 8 #[.agg #[.int .u8 (t.toNat : Int), .slice A1 n1 c1, .slice A2 n2 c2, .int .i64 at_]] w (PrefixPost w) := by
  have hlb := hb.len
  have hlm := hm.len
  have ht : ¬ t.toNat % 32 = 31 := by simp at h1; omega
  have he1 := Der.elem_write t b more (by omega)
  have he2 := Der.elem_write' t b (by omega)
  rw [if_neg ht] at he1 he2
  have hwl := Der.write_len t b
  have hbl := Der.lenB_len b.length (by omega)
  have HE := Lib.hid (And.intro he1 (And.intro he2 (And.intro hb (And.intro hm (And.intro hlb hlm)))))
  have HT := Lib.hid ht
  have HLW := Lib.hid (show (Der.write t b).length ≤ 10000 ∧ 0 < (Der.write t b).length by omega)
  clear he1 he2 hb hm hlb hlm ht hwl hbl
  go_enter Try.func8, Try.ntmps8
  go_wp2_with fail
  refine (large_any _ n1 c1 _).mono ?_
  rintro e w1 ⟨he, rfl⟩
  rw [decide_eq_false (show ¬ (8192 : Int) < n1 by omega)] at he
  subst he
  go_wp2_with fail
  refine (large_any _ n2 c2 _).mono ?_
  rintro e w1 ⟨he, rfl⟩
  rw [decide_eq_false (show ¬ (8192 : Int) < n2 by omega)] at he
  subst he
  go_wp2_with fail
  refine (write_any t _ n1 c1 _ _ (HE.out.2.2.1.up (by (repeat (first | exact Below.refl _ _ | assumption | (refine Below.setCell ?_ (by first | omega | (simp; done) | (simp; omega)) _) | (refine Below.alloc ?_ (by first | omega | (simp; done) | (simp; omega)) _) | (refine below_drewN ?_ _) | (refine Below.drew ?_))))) (by omega)).mono ?_
  rintro e w2 ⟨A3, n3, c3, rfl, ho3, hb2⟩
  have hr3 := Rd.of_own ho3
  have hbw2 : Below w.heap.size w w2 := Below.trans (by (repeat (first | exact Below.refl _ _ | assumption | (refine Below.setCell ?_ (by first | omega | (simp; done) | (simp; omega)) _) | (refine Below.alloc ?_ (by first | omega | (simp; done) | (simp; omega)) _) | (refine below_drewN ?_ _) | (refine Below.drew ?_)))) (hb2.mono (by first | omega | (simp; done) | (simp; omega)))
  have hn3 : 0 < n3 ∧ n3 ≤ 10000 := by rw [← hr3.len]; have := HLW.out; omega
  have hn3l := hr3.len
  obtain ⟨g3, rfl⟩ : ∃ g, A3 = some ⟨g, 0, none⟩ := by
    obtain ⟨g, cap, e, _⟩ := ho3.1.form (by rw [hn3l]; omega)
    injection e with e
    exact ⟨g, e⟩
  have hcap3 := hr3.cap
  have hcm3 := hr3.capm
  have H3 := Lib.hid (And.intro hr3 (And.intro (HE.out.2.2.2.1.up hbw2) hn3l))
  clear ho3 hr3 hb2 hn3l
  have hj := RdL.lit w2 22 [(.slice (some ⟨g3, 0, none⟩) n3 c3, Der.write t b), (.slice A2 n2 c2, more)] [.slice (some ⟨g3, 0, none⟩) n3 c3, .slice A2 n2 c2] _ 2 rfl rfl rfl (by omega)
    (fun v ys hm => by
      simp only [List.mem_cons, Prod.mk.injEq, List.not_mem_nil, or_false] at hm
      rcases hm with ⟨rfl, rfl⟩ | ⟨rfl, rfl⟩
      · exact RdV.mk H3.out.1
      · exact RdV.mk H3.out.2.1)
  have hcat : cat [(Value.slice (some ⟨g3, 0, none⟩) n3 c3, Der.write t b), (.slice A2 n2 c2, more)] = Der.write t b ++ more := by simp [cat]
  have HJ := Lib.hid (And.intro hj hcat)
  clear hj hcat
  go_wp2_with fail
  refine (join_any _ 2 2 _ _ HJ.out.1 (by omega) (by rw [HJ.out.2, List.length_append]; have := HLW.out; have := HE.out.2.2.2.2.2; omega)).mono ?_
  rw [HJ.out.2]
  rintro e w3 ⟨A4, n4, c4, rfl, ho4, hb3⟩
  have hr4 := Rd.of_own ho4
  have hn4 : n4 ≤ 20000 := by rw [← hr4.len, List.length_append]; have := HLW.out; have := HE.out.2.2.2.2.2; omega
  have hb23 : Below w2.heap.size w2 w3 := Below.trans (by (repeat (first | exact Below.refl _ _ | assumption | (refine Below.setCell ?_ (by first | omega | (simp; done) | (simp; omega)) _) | (refine Below.alloc ?_ (by first | omega | (simp; done) | (simp; omega)) _) | (refine below_drewN ?_ _) | (refine Below.drew ?_)))) (hb3.mono (by first | omega | (simp; done) | (simp; omega)))
  have H4 := Lib.hid (And.intro hr4 hb23)
  clear ho4 hr4 hb3 hb23
  go_wp2_with fail
  refine (parse_any A4 n4 c4 _ _ H4.out.1 (by omega)).mono ?_
  rintro e w4 ⟨hb4, ⟨hno, _⟩ | ⟨t', b', r', s', A5, n5, c5, A6, n6, c6, A7, n7, c7, hel, rfl, ho5⟩⟩
  · rw [HE.out.1] at hno; cases hno
  rw [HE.out.1] at hel
  simp only [Option.some.injEq, Prod.mk.injEq] at hel
  obtain ⟨rfl, rfl, rfl, rfl⟩ := hel
  have hb24 : Below w2.heap.size w2 w4 := H4.out.2.trans (hb4.mono H4.out.2.size)
  have r5 := Owns.rows ho5
  simp only [List.mem_cons, List.not_mem_nil, or_false, forall_eq_or_imp, forall_eq] at r5
  have hbx := Blk.new w4 27 #[.int .u8 (t.toNat : Int), .slice A5 n5 c5, .slice A6 n6 c6]
  have H5 := Lib.hid (And.intro hb24 (And.intro hbx (And.intro (Rd.of_own r5.1) (And.intro (Rd.of_own r5.2.2) ((H3.out.1.up hb24).up (w' := w4.alloc (.cells #[.int .u8 (t.toNat : Int), .slice A5 n5 c5, .slice A6 n6 c6] 27)) (by (repeat (first | exact Below.refl _ _ | assumption | (refine Below.setCell ?_ (by first | omega | (simp; done) | (simp; omega)) _) | (refine Below.alloc ?_ (by first | omega | (simp; done) | (simp; omega)) _) | (refine below_drewN ?_ _) | (refine Below.drew ?_)))))))))
  have hs24 := hb24.size
  clear ho5 r5 hbx hb4 hb24
  go_wp2_with fail
  refine (parse_any _ n3 c3 _ _ H5.out.2.2.2.2 (by omega)).mono ?_
  rintro e w5 ⟨hb5, ⟨hno, _⟩ | ⟨t', b', r', s', A8, n8, c8, A9, n9, c9, A10, n10, c10, hel, rfl, ho6⟩⟩
  · rw [HE.out.2.1] at hno; cases hno
  rw [HE.out.2.1] at hel
  simp only [Option.some.injEq, Prod.mk.injEq] at hel
  obtain ⟨rfl, rfl, rfl, rfl⟩ := hel
  have r6 := Owns.rows ho6
  simp only [List.mem_cons, List.not_mem_nil, or_false, forall_eq_or_imp, forall_eq] at r6
  have hz10 := (Rd.of_own r6.2.2).len
  obtain rfl : n10 = 0 := by simpa using hz10.symm
  have hb45 : Below w4.heap.size w4 w5 := Below.trans (by (repeat (first | exact Below.refl _ _ | assumption | (refine Below.setCell ?_ (by first | omega | (simp; done) | (simp; omega)) _) | (refine Below.alloc ?_ (by first | omega | (simp; done) | (simp; omega)) _) | (refine below_drewN ?_ _) | (refine Below.drew ?_)))) (hb5.mono (by first | omega | (simp; done) | (simp; omega)))
  obtain ⟨hcx, hfx, hBx, hzx⟩ := H5.out.2.1.box hb5 (by simp)
  have hs45 := hb45.size
  have hbw5 : Below w.heap.size w w5 := hbw2.trans ((H5.out.1.trans (hb45.mono hs24)).mono hbw2.size)
  have H6 := Lib.hid (And.intro hb45 (And.intro (Rd.of_own r6.1) (And.intro ((H5.out.2.2.1.up hb45)) (And.intro (H5.out.2.2.2.1.up hb45) (And.intro (HE.out.2.2.2.1.up hbw5) (And.intro (H3.out.1.up (H5.out.1.trans (hb45.mono hs24))) hbw5))))))
  clear ho6 r6 hb5 hb45 hz10 hbw5
  go_wp2_with fail
  refine (eqbytes_same _ _ _ _ _ _ _ _ _ _ (H6.out.2.2.1.alloc (Nat.le_refl _) _) (H6.out.2.1.alloc (Nat.le_refl _) _)).mono ?_
  rintro e w6 ⟨rfl, hw⟩
  subst hw
  go_wp2_with fail
  refine (eqbytes_same _ _ _ _ _ _ _ _ _ _ (H6.out.2.2.2.1.alloc (Nat.le_refl _) _) (H6.out.2.2.2.2.1.alloc (Nat.le_refl _) _)).mono ?_
  rintro e w6 ⟨rfl, hw⟩
  subst hw
  have hbw6 : Below w.heap.size w (w5.alloc (.cells #[.int .u8 (t.toNat : Int), .slice A8 n8 c8, .slice A9 n9 c9] 27)) := H6.out.2.2.2.2.2.2.alloc H6.out.2.2.2.2.2.2.size _
  clear hcx hfx hBx hzx
  by_cases ha0 : at_ < 0
  · go_wp2_with fail
    refine (works_any _).mono ?_
    rintro e w7 ⟨rfl, hb7⟩
    go_wp2
    go_ret
    exact ⟨rfl, hbw6.trans (hb7.mono hbw6.size)⟩
  by_cases ha1 : (n3 : Int) ≤ at_
  · go_wp2_with fail
    refine (works_any _).mono ?_
    rintro e w7 ⟨rfl, hb7⟩
    go_wp2
    go_ret
    exact ⟨rfl, hbw6.trans (hb7.mono hbw6.size)⟩
  obtain ⟨k, rfl⟩ : ∃ k : Nat, at_ = k := ⟨at_.toNat, by omega⟩
  have hk : k < n3 := by omega
  have hk1 : ¬ (n3 : Int) ≤ (k : Int) := by omega
  have hk2 : (k : Int) ≤ (c3 : Int) := by omega
  have hk3 : k ≤ c3 := by omega
  have hcut := Der.elem_cut t b (by have := HE.out.2.2.2.2.1; omega) k (by rw [H3.out.2.2]; exact hk)
  obtain ⟨w6, hw6⟩ : ∃ w6, w5.alloc (.cells #[.int .u8 (t.toNat : Int), .slice A8 n8 c8, .slice A9 n9 c9] 27) = w6 := ⟨_, rfl⟩
  have hr6 : Rd w6 w6.heap.size (some ⟨g3, 0, none⟩) n3 c3 (Der.write t b) := by rw [← hw6]; exact H6.out.2.2.2.2.2.1.up (by (repeat (first | exact Below.refl _ _ | assumption | (refine Below.setCell ?_ (by first | omega | (simp; done) | (simp; omega)) _) | (refine Below.alloc ?_ (by first | omega | (simp; done) | (simp; omega)) _) | (refine below_drewN ?_ _) | (refine Below.drew ?_))))
  rw [hw6] at hbw6 ⊢
  have HC := Lib.hid (And.intro hcut (And.intro hr6 hbw6))
  clear hcut hr6 hw6 hbw6
  go_wp2_with fail
  refine (parse_any _ k c3 _ _ (HC.out.2.1.upto k (by omega)) (by omega)).mono ?_
  rintro e w7 ⟨hb7, ⟨hno, rfl⟩ | ⟨t', b', r', s', _, _, _, _, _, _, _, _, _, hel, _, _⟩⟩
  rotate_left
  · rw [HC.out.1] at hel; cases hel
  have hbz := Blk.new w7 27 #[.int .u8 0, .slice none 0 0, .slice none 0 0]
  have hr7 : Rd (w7.alloc (.cells #[.int .u8 0, .slice none 0 0, .slice none 0 0] 27)) (w7.alloc (.cells #[.int .u8 0, .slice none 0 0, .slice none 0 0] 27)).heap.size (some ⟨g3, 0, none⟩) n3 c3 (Der.write t b) := (HC.out.2.1.up hb7).up (by (repeat (first | exact Below.refl _ _ | assumption | (refine Below.setCell ?_ (by first | omega | (simp; done) | (simp; omega)) _) | (refine Below.alloc ?_ (by first | omega | (simp; done) | (simp; omega)) _) | (refine below_drewN ?_ _) | (refine Below.drew ?_))))
  have hj2 := RdL.lit (w7.alloc (.cells #[.int .u8 0, .slice none 0 0, .slice none 0 0] 27)) 22 [(.slice (some ⟨g3, 0, none⟩) n3 c3, Der.write t b), (.slice (some ⟨g3, 0, none⟩) k c3, (Der.write t b).take k)] [.slice (some ⟨g3, 0, none⟩) n3 c3, .slice (some ⟨g3, 0, none⟩) k c3] (w7.heap.size + 1) 2 (by simp) rfl rfl (by omega)
    (fun v ys hm => by
      simp only [List.mem_cons, Prod.mk.injEq, List.not_mem_nil, or_false] at hm
      rcases hm with ⟨rfl, rfl⟩ | ⟨rfl, rfl⟩
      · exact RdV.mk hr7
      · exact RdV.mk (hr7.upto k (by omega)))
  have hcat2 : cat [(Value.slice (some ⟨g3, 0, none⟩) n3 c3, Der.write t b), (.slice (some ⟨g3, 0, none⟩) k c3, (Der.write t b).take k)] = Der.write t b ++ (Der.write t b).take k := by simp [cat]
  have hbw7 : Below w.heap.size w w7 := HC.out.2.2.trans (hb7.mono HC.out.2.2.size)
  have H7 := Lib.hid (And.intro hj2 (And.intro hcat2 (And.intro hbz hbw7)))
  clear hj2 hcat2 hbz hr7 hb7 hno hbw7
  go_wp2_with fail
  refine (join_any _ 2 2 _ _ H7.out.1 (by omega) (by rw [H7.out.2.1, List.length_append, List.length_take]; have := HLW.out; omega)).mono ?_
  rw [H7.out.2.1]
  rintro e w8 ⟨A11, n11, c11, rfl, ho8, hb8⟩
  have hr8 := Rd.of_own ho8
  have hn11 : n11 ≤ 20000 := by rw [← hr8.len, List.length_append, List.length_take]; have := HLW.out; omega
  have hs8 := hb8.size
  simp at hs8
  have hBz := (H7.out.2.2.1.alloc (.cells #[.slice (some ⟨g3, 0, none⟩) n3 c3, .slice (some ⟨g3, 0, none⟩) k c3] 22)).below hb8 (by first | omega | (simp; done) | (simp; omega))
  have hbw8 : Below w.heap.size w w8 := H7.out.2.2.2.trans ((Below.trans (by (repeat (first | exact Below.refl _ _ | assumption | (refine Below.setCell ?_ (by first | omega | (simp; done) | (simp; omega)) _) | (refine Below.alloc ?_ (by first | omega | (simp; done) | (simp; omega)) _) | (refine below_drewN ?_ _) | (refine Below.drew ?_)))) (hb8.mono (by first | omega | (simp; done) | (simp; omega)))).mono H7.out.2.2.2.size)
  have H8 := Lib.hid (And.intro hr8 (And.intro hBz hbw8))
  clear ho8 hr8 hb8 hBz hbw8
  go_wp2_with fail
  refine (all_any A11 n11 c11 _ _ H8.out.1 (by omega)).mono ?_
  rintro e w9 ⟨hb9, HH⟩
  obtain ⟨hcz, hfz, hBz, hzz⟩ := H8.out.2.1.box hb9 H8.out.2.1.lt
  have hbw9 : Below w.heap.size w w9 := H8.out.2.2.trans (hb9.mono H8.out.2.2.size)
  clear hb9 hBz
  have hel2 := Der.elem_write t b ((Der.write t b).take k) (by have := HE.out.2.2.2.2.1; omega)
  rw [if_neg HT.out] at hel2
  have hne : Der.write t b ++ (Der.write t b).take k ≠ [] := by intro e; have := congrArg List.length e; have h2 := HLW.out.2; simp only [List.length_append, List.length_nil] at this; omega
  rw [seq_some hne hel2] at HH
  by_cases hk0 : k = 0
  · subst hk0
    rw [List.take_zero, seq_nil] at HH
    rcases HH with ⟨hany, _⟩ | ⟨l, A12, n12, c12, hsl, rfl, hE⟩
    · simp at hany
    clear hsl hE hel2 hne
    go_wp2_with fail
    refine (works_any _).mono ?_
    rintro e w10 ⟨rfl, hb10⟩
    go_wp2
    go_ret
    exact ⟨rfl, hbw9.trans (hb10.mono hbw9.size)⟩
  · rw [Der.seq_cut t b (by have := HE.out.2.2.2.2.1; omega) k (by omega) (by rw [H3.out.2.2]; exact hk)] at HH
    rcases HH with ⟨hany, rfl⟩ | ⟨l, A12, n12, c12, hsl, _, _⟩
    rotate_left
    · exfalso
      rcases l with _ | ⟨e1, _ | ⟨e2, l⟩⟩ <;> simp at hsl
    have hkz : ((k : Int) == 0) = false := by simp; omega
    clear hany hel2 hne
    go_wp2_with fail
    refine (works_any _).mono ?_
    rintro e w10 ⟨rfl, hb10⟩
    go_wp2
    go_ret
    exact ⟨rfl, hbw9.trans (hb10.mono hbw9.size)⟩

theorem derPrefixes_u8 (t : UInt8) (A1 A2 : Option Addr) (n1 c1 n2 c2 : Nat) (a : Int) (b more : List UInt8) (w : World) (hb : Rd w w.heap.size A1 n1 c1 b) (hm : Rd w w.heap.size A2 n2 c2 more) :
    Calls Try.prog 8 #[.agg #[.int .u8 (t.toNat : Int), .slice A1 n1 c1, .slice A2 n2 c2, .int .i64 a]] w (PrefixPost w) := by
  by_cases h1 : t.toNat % 32 = 31
  · exact prefix_tag t A1 A2 n1 c1 n2 c2 a w (by simp; omega)
  by_cases h3 : (8192 : Int) < n1
  · exact prefix_large1 t A1 A2 n1 c1 n2 c2 a w (by simp; omega) h3
  by_cases h4 : (8192 : Int) < n2
  · exact prefix_large2 t A1 A2 n1 c1 n2 c2 a w (by simp; omega) h3 h4
  · exact prefix_main t A1 A2 n1 c1 n2 c2 a b more w hb hm (by simp; omega) h3 h4

theorem derPrefixes_walk (w : World) (a0 a3 : Int) (w0 : (Lit.int .u8 a0).wf = true) (A1 A2 : Option Addr) (n1 c1 n2 c2 : Nat) (a b : List UInt8) (ha : Rd w w.heap.size A1 n1 c1 a) (hb : Rd w w.heap.size A2 n2 c2 b) :
    Calls Try.prog 8 #[.agg #[.int .u8 a0, .slice A1 n1 c1, .slice A2 n2 c2, .int .i64 a3]] w fun e w' => e = .returned (.bool true) ∧ Below w.heap.size w w' := by
  have := derPrefixes_u8 (UInt8.ofNat a0.toNat) A1 A2 n1 c1 n2 c2 a3 a b w ha hb
  rw [u8_of_wf w0] at this
  exact this
end Go.Proofs.Ytadkiildjehdmaa
