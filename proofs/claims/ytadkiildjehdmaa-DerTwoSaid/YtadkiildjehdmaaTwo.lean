/- The walk of the law DerTwo. -/
import Derived.Test.YtadkiildjehdmaaElems
import Derived.Test.YtadkiildjehdmaaAll2
import Derived.Test.YtadkiildjehdmaaWorks
import Derived.Test.YtadkiildjehdmaaDer5
import Derived.Test.YtadkiildjehdmaaDepth
import Derived.Test.YtadkiildjehdmaaOpen
namespace Go.Proofs.Ytadkiildjehdmaa
open Go.RowKit
set_option maxRecDepth 1000000
set_option linter.unusedVariables false
set_option linter.unusedSimpArgs false

def TwoPost (w : World) (e : Ending) (w' : World) : Prop := e = .returned (.bool true) ∧ Below w.heap.size w w'

theorem two_tag1 (o t : UInt8) (A1 A2 : Option Addr) (n1 c1 n2 c2 : Nat) (w : World) (h : ((o.toNat : Int) % 32 == 31) = true) :
    Calls Try.prog 9 #[.agg #[.int .u8 (o.toNat : Int), .int .u8 (t.toNat : Int), .slice A1 n1 c1, .slice A2 n2 c2]] w (TwoPost w) := by
  go_enter Try.func9, Try.ntmps9
  go_wp2_with fail
  refine (works_any _).mono ?_
  rintro e w1 ⟨rfl, hb1⟩
  go_wp2
  go_ret
  exact ⟨rfl, Below.trans (by (repeat (first | exact Below.refl _ _ | assumption | (refine Below.setCell ?_ (by first | omega | (simp; done) | (simp; omega)) _) | (refine Below.alloc ?_ (by first | omega | (simp; done) | (simp; omega)) _) | (refine below_drewN ?_ _) | (refine Below.drew ?_)))) (hb1.mono (by first | omega | (simp; done) | (simp; omega)))⟩
theorem two_tag2 (o t : UInt8) (A1 A2 : Option Addr) (n1 c1 n2 c2 : Nat) (w : World) (h1 : ((o.toNat : Int) % 32 == 31) = false) (h : ((t.toNat : Int) % 32 == 31) = true) :
    Calls Try.prog 9 #[.agg #[.int .u8 (o.toNat : Int), .int .u8 (t.toNat : Int), .slice A1 n1 c1, .slice A2 n2 c2]] w (TwoPost w) := by
  go_enter Try.func9, Try.ntmps9
  go_wp2_with fail
  refine (works_any _).mono ?_
  rintro e w1 ⟨rfl, hb1⟩
  go_wp2
  go_ret
  exact ⟨rfl, Below.trans (by (repeat (first | exact Below.refl _ _ | assumption | (refine Below.setCell ?_ (by first | omega | (simp; done) | (simp; omega)) _) | (refine Below.alloc ?_ (by first | omega | (simp; done) | (simp; omega)) _) | (refine below_drewN ?_ _) | (refine Below.drew ?_)))) (hb1.mono (by first | omega | (simp; done) | (simp; omega)))⟩
theorem two_large1 (o t : UInt8) (A1 A2 : Option Addr) (n1 c1 n2 c2 : Nat) (w : World) (h1 : ((o.toNat : Int) % 32 == 31) = false) (h2 : ((t.toNat : Int) % 32 == 31) = false) (hn : (8192 : Int) < n1) :
    Calls Try.prog 9 #[.agg #[.int .u8 (o.toNat : Int), .int .u8 (t.toNat : Int), .slice A1 n1 c1, .slice A2 n2 c2]] w (TwoPost w) := by
  go_enter Try.func9, Try.ntmps9
  go_wp2_with fail
  refine (large_any _ n1 c1 _).mono ?_
  rintro e w1 ⟨he, rfl⟩
  rw [decide_eq_true (show (8192 : Int) < n1 by omega)] at he
  subst he
  go_wp2_with fail
  refine (works_any _).mono ?_
  rintro e w1 ⟨rfl, hb1⟩
  go_wp2
  go_ret
  exact ⟨rfl, Below.trans (by (repeat (first | exact Below.refl _ _ | assumption | (refine Below.setCell ?_ (by first | omega | (simp; done) | (simp; omega)) _) | (refine Below.alloc ?_ (by first | omega | (simp; done) | (simp; omega)) _) | (refine below_drewN ?_ _) | (refine Below.drew ?_)))) (hb1.mono (by first | omega | (simp; done) | (simp; omega)))⟩
theorem two_large2 (o t : UInt8) (A1 A2 : Option Addr) (n1 c1 n2 c2 : Nat) (w : World) (h1 : ((o.toNat : Int) % 32 == 31) = false) (h2 : ((t.toNat : Int) % 32 == 31) = false) (hn1 : ¬ (8192 : Int) < n1) (hn : (8192 : Int) < n2) :
    Calls Try.prog 9 #[.agg #[.int .u8 (o.toNat : Int), .int .u8 (t.toNat : Int), .slice A1 n1 c1, .slice A2 n2 c2]] w (TwoPost w) := by
  go_enter Try.func9, Try.ntmps9
  go_wp2_with fail
  refine (large_any _ n1 c1 _).mono ?_
  rintro e w1 ⟨he, rfl⟩
  rw [decide_eq_false (show ¬ (8192 : Int) < n1 by omega)] at he
  subst he
  go_wp2_with fail
  refine (large_any _ n2 c2 _).mono ?_
  rintro e w1 ⟨he, rfl⟩
  rw [decide_eq_true (show (8192 : Int) < n2 by omega)] at he
  subst he
  go_wp2_with fail
  refine (works_any _).mono ?_
  rintro e w1 ⟨rfl, hb1⟩
  go_wp2
  go_ret
  exact ⟨rfl, Below.trans (by (repeat (first | exact Below.refl _ _ | assumption | (refine Below.setCell ?_ (by first | omega | (simp; done) | (simp; omega)) _) | (refine Below.alloc ?_ (by first | omega | (simp; done) | (simp; omega)) _) | (refine below_drewN ?_ _) | (refine Below.drew ?_)))) (hb1.mono (by first | omega | (simp; done) | (simp; omega)))⟩

theorem two_seq (o t : UInt8) (a b : List UInt8) (ha : a.length < 4294967296) (hb : b.length < 4294967296) (ho : o.toNat % 32 ≠ 31) (ht : t.toNat % 32 ≠ 31) (more : List UInt8) :
    Der.seq (Der.write o a ++ (Der.write t b ++ more)) = some (o, a, Der.write o a) :: some (t, b, Der.write t b) :: Der.seq more := by
  have h1 := Der.elem_write o a (Der.write t b ++ more) ha
  rw [if_neg ho] at h1
  have h2 := Der.elem_write t b more hb
  rw [if_neg ht] at h2
  have n1 : Der.write o a ++ (Der.write t b ++ more) ≠ [] := by intro e; have := congrArg List.length e; simp [Der.write_len] at this
  have n2 : Der.write t b ++ more ≠ [] := by intro e; have := congrArg List.length e; simp [Der.write_len] at this
  rw [seq_some n1 h1, seq_some n2 h2]
theorem seq_five : Der.seq [5] = [none] := by decide +kernel

set_option maxHeartbeats 4000000 in
theorem two_main (o t : UInt8) (A1 A2 : Option Addr) (n1 c1 n2 c2 : Nat) (a b : List UInt8) (w : World) (ha : Rd w w.heap.size A1 n1 c1 a) (hb : Rd w w.heap.size A2 n2 c2 b) (h1 : ((o.toNat : Int) % 32 == 31) = false) (h2 : ((t.toNat : Int) % 32 == 31) = false)
    (hn1 : ¬ (8192 : Int) < n1) (hn2 : ¬ (8192 : Int) < n2) :
    Calls Try.prog 9 #[.agg #[.int .u8 (o.toNat : Int), .int .u8 (t.toNat : Int), .slice A1 n1 c1, .slice A2 n2 c2]] w (TwoPost w) := by
  have hla := ha.len
  have hlb := hb.len
  have ho : o.toNat % 32 ≠ 31 := by simp at h1; omega
  have ht : t.toNat % 32 ≠ 31 := by simp at h2; omega
  have hs1 := two_seq o t a b (by omega) (by omega) ho ht []
  rw [List.append_nil, seq_nil] at hs1
  have hs2 := two_seq o t a b (by omega) (by omega) ho ht [5]
  rw [seq_five] at hs2
  have hwa := Der.write_len o a
  have hwb := Der.write_len t b
  have hba := Der.lenB_len a.length (by omega)
  have hbb := Der.lenB_len b.length (by omega)
  have HS := Lib.hid (And.intro hs1 hs2)
  have HA := Lib.hid (And.intro ha hb)
  have HLW := Lib.hid (show (Der.write o a).length ≤ 10000 ∧ (Der.write t b).length ≤ 10000 by omega)
  clear hs1 hs2 ha hb hla hlb ho ht hwa hwb hba hbb
  go_enter Try.func9, Try.ntmps9
  go_wp2_with fail
  refine (large_any _ n1 c1 _).mono ?_
  rintro e w1 ⟨he, rfl⟩
  rw [decide_eq_false (show ¬ (8192 : Int) < n1 by omega)] at he
  subst he
  go_wp2_with fail
  refine (large_any _ n2 c2 _).mono ?_
  rintro e w1 ⟨he, rfl⟩
  rw [decide_eq_false (show ¬ (8192 : Int) < n2 by omega)] at he
  subst he
  go_wp2_with fail
  refine (write_any o _ n1 c1 _ _ (HA.out.1.up (by (repeat (first | exact Below.refl _ _ | assumption | (refine Below.setCell ?_ (by first | omega | (simp; done) | (simp; omega)) _) | (refine Below.alloc ?_ (by first | omega | (simp; done) | (simp; omega)) _) | (refine below_drewN ?_ _) | (refine Below.drew ?_))))) (by omega)).mono ?_
  rintro e w2 ⟨A3, n3, c3, rfl, ho3, hb2⟩
  obtain ⟨_, _, _, e3, hr3⟩ := ho3.rd
  injection e3 with ea eb ec
  subst ea eb ec
  have hbw2 : Below w.heap.size w w2 := Below.trans (by (repeat (first | exact Below.refl _ _ | assumption | (refine Below.setCell ?_ (by first | omega | (simp; done) | (simp; omega)) _) | (refine Below.alloc ?_ (by first | omega | (simp; done) | (simp; omega)) _) | (refine below_drewN ?_ _) | (refine Below.drew ?_)))) (hb2.mono (by first | omega | (simp; done) | (simp; omega)))
  have H3 := Lib.hid hr3
  clear ho3 hr3 hb2
  go_wp2_with fail
  refine (write_any t _ n2 c2 _ _ (HA.out.2.up hbw2) (by omega)).mono ?_
  rintro e w3 ⟨A4, n4, c4, rfl, ho4, hb3⟩
  obtain ⟨_, _, _, e4, hr4⟩ := ho4.rd
  injection e4 with ea eb ec
  subst ea eb ec
  have hbw3 : Below w.heap.size w w3 := hbw2.trans (hb3.mono hbw2.size)
  have H4 := Lib.hid (And.intro (H3.out.up hb3) hr4)
  clear ho4 hr4 hb3 hbw2
  obtain ⟨L, hL⟩ : ∃ L : List (Value × List UInt8), L = [(.slice A3 n3 c3, Der.write o a), (.slice A4 n4 c4, Der.write t b)] := ⟨_, rfl⟩
  have hj := RdL.lit w3 22 L [.slice A3 n3 c3, .slice A4 n4 c4] _ 2 rfl (by rw [hL]; rfl) (by rw [hL]; rfl) (by omega)
    (fun v ys hm => by
      rw [hL] at hm
      simp only [List.mem_cons, Prod.mk.injEq, List.not_mem_nil, or_false] at hm
      rcases hm with ⟨rfl, rfl⟩ | ⟨rfl, rfl⟩
      · exact RdV.mk H4.out.1
      · exact RdV.mk H4.out.2)
  have hcat : cat L = Der.write o a ++ Der.write t b := by rw [hL]; simp [cat]
  have HJ := Lib.hid (And.intro hj hcat)
  clear hj hcat hL
  go_wp2_with fail
  refine (join_any _ 2 2 L _ HJ.out.1 (by omega) (by rw [HJ.out.2, List.length_append]; have := HLW.out; omega)).mono ?_
  rw [HJ.out.2]
  rintro e w4 ⟨A5, n5, c5, rfl, ho5, hb4⟩
  have hn5 : n5 ≤ 20000 := by rw [← ho5.len, List.length_append]; have := HLW.out; omega
  obtain ⟨_, _, _, e5, hr5⟩ := ho5.rd
  injection e5 with ea eb ec
  subst ea eb ec
  have hb34 : Below w3.heap.size w3 w4 := Below.trans (by (repeat (first | exact Below.refl _ _ | assumption | (refine Below.setCell ?_ (by first | omega | (simp; done) | (simp; omega)) _) | (refine Below.alloc ?_ (by first | omega | (simp; done) | (simp; omega)) _) | (refine below_drewN ?_ _) | (refine Below.drew ?_)))) (hb4.mono (by first | omega | (simp; done) | (simp; omega)))
  have H5 := Lib.hid (And.intro hr5 hb34)
  clear ho5 hr5 hb4 hb34
  go_wp2_with fail
  refine (all_any A5 n5 c5 _ _ H5.out.1 (by omega)).mono ?_
  rintro e w6 ⟨hb6, HH⟩
  rw [HS.out.1] at HH
  rcases HH with ⟨hany, _⟩ | ⟨l, A6, n6, c6, hsl, rfl, hE⟩
  · simp at hany
  rcases l with _ | ⟨e1, _ | ⟨e2, _ | ⟨e3, l⟩⟩⟩
  · simp at hsl
  · simp at hsl
  rotate_left
  · simp at hsl
  obtain rfl : n6 = 2 := by
    obtain ⟨_, _, e, _⟩ := hE.1.shape
    injection e with _ e2 _
  simp only [List.map_cons, List.map_nil, List.cons.injEq, Option.some.injEq, EI.dat, Prod.mk.injEq, and_true] at hsl
  obtain ⟨⟨ht1, hy1, hz1⟩, ht2, hy2, hz2⟩ := hsl
  obtain ⟨g, t1, B1, m1, d1, y1, B2, m2, d2, z1, rfl, hg, hx1, q0, q1, q2, r1, r2⟩ := hE.get (k := 0) (by omega)
  obtain ⟨g', t2, B3, m3, d3, y2, B4, m4, d4, z2, eg, _, hx2, q3, q4, q5, r3, r4⟩ := hE.get (k := 1) (by omega)
  injection eg with eg
  injection eg with eg _
  subst eg
  simp only [List.getElem?_cons_zero, List.getElem?_cons_succ, Option.some.injEq] at hx1 hx2
  subst hx1 hx2
  dsimp only at ht1 hy1 hz1 ht2 hy2 hz2
  subst ht1 hy1 ht2 hy2
  rw [← hz1] at r2
  rw [← hz2] at r4
  have H6 := Lib.hid (And.intro hb6 (And.intro (And.intro q0 (And.intro q1 q2)) (And.intro (And.intro q3 (And.intro q4 q5)) (And.intro (And.intro r1 r2) (And.intro r3 r4)))))
  have hb36 : Below w3.heap.size w3 w6 := H5.out.2.trans (hb6.mono H5.out.2.size)
  have hbw6 : Below w.heap.size w w6 := hbw3.trans (hb36.mono hbw3.size)
  have H46 := Lib.hid (And.intro (H4.out.1.up hb36) (H4.out.2.up hb36))
  clear hb6 q0 q1 q2 q3 q4 q5 r1 r2 r3 r4 hz1 hz2 hE hb36
  have hf := Rd.lit w6 5 [5] [.int .u8 5] _ 1 rfl rfl rfl (by omega)
  obtain ⟨L2, hL2⟩ : ∃ L : List (Value × List UInt8), L = [(.slice A3 n3 c3, Der.write o a), (.slice A4 n4 c4, Der.write t b), (.slice (some ⟨w6.heap.size, 0, none⟩) 1 1, [5])] := ⟨_, rfl⟩
  have hj2 := RdL.lit (w6.alloc (.cells #[.int .u8 5] 5)) 22 L2 [.slice A3 n3 c3, .slice A4 n4 c4, .slice (some ⟨w6.heap.size, 0, none⟩) 1 1] (w6.heap.size + 1) 3 (by simp) (by rw [hL2]; rfl) (by rw [hL2]; rfl) (by omega)
    (fun v ys hm => by
      rw [hL2] at hm
      simp only [List.mem_cons, Prod.mk.injEq, List.not_mem_nil, or_false] at hm
      rcases hm with ⟨rfl, rfl⟩ | ⟨rfl, rfl⟩ | ⟨rfl, rfl⟩
      · exact RdV.mk (H46.out.1.up (by (repeat (first | exact Below.refl _ _ | assumption | (refine Below.setCell ?_ (by first | omega | (simp; done) | (simp; omega)) _) | (refine Below.alloc ?_ (by first | omega | (simp; done) | (simp; omega)) _) | (refine below_drewN ?_ _) | (refine Below.drew ?_)))))
      · exact RdV.mk (H46.out.2.up (by (repeat (first | exact Below.refl _ _ | assumption | (refine Below.setCell ?_ (by first | omega | (simp; done) | (simp; omega)) _) | (refine Below.alloc ?_ (by first | omega | (simp; done) | (simp; omega)) _) | (refine below_drewN ?_ _) | (refine Below.drew ?_)))))
      · exact RdV.mk hf)
  have hcat2 : cat L2 = Der.write o a ++ (Der.write t b ++ [5]) := by rw [hL2]; simp [cat]
  have HJ2 := Lib.hid (And.intro hj2 hcat2)
  clear hj2 hcat2 hL2 hf
  go_wp2_with fail
  refine (join_any _ 3 3 L2 _ HJ2.out.1 (by omega) (by rw [HJ2.out.2, List.length_append, List.length_append]; have := HLW.out; simp; omega)).mono ?_
  rw [HJ2.out.2]
  rintro e w7 ⟨A7, n7, c7, rfl, ho7, hb7⟩
  have hn7 : n7 ≤ 30000 := by rw [← ho7.len, List.length_append, List.length_append]; have := HLW.out; simp; omega
  obtain ⟨_, _, _, e7, hr7⟩ := ho7.rd
  injection e7 with ea eb ec
  subst ea eb ec
  have hb67 : Below w6.heap.size w6 w7 := Below.trans (by (repeat (first | exact Below.refl _ _ | assumption | (refine Below.setCell ?_ (by first | omega | (simp; done) | (simp; omega)) _) | (refine Below.alloc ?_ (by first | omega | (simp; done) | (simp; omega)) _) | (refine below_drewN ?_ _) | (refine Below.drew ?_)))) (hb7.mono (by first | omega | (simp; done) | (simp; omega)))
  have H7 := Lib.hid (And.intro hr7 hb67)
  clear ho7 hr7 hb7 hb67
  go_wp2_with fail
  refine (all_any A7 n7 c7 _ _ H7.out.1 (by omega)).mono ?_
  rintro e w8 ⟨hb8, HH⟩
  rw [HS.out.2] at HH
  rcases HH with ⟨hany, rfl⟩ | ⟨l, A8, n8, c8, hsl, _, _⟩
  rotate_left
  · exfalso
    rcases l with _ | ⟨e1, _ | ⟨e2, _ | ⟨e3, l⟩⟩⟩ <;> simp at hsl
  clear hany
  have hb68 : Below w6.heap.size w6 w8 := H7.out.2.trans (hb8.mono H7.out.2.size)
  have hbw8 : Below w.heap.size w w8 := hbw6.trans (hb68.mono hbw6.size)
  have k0 : w8.cell? ⟨g, 0, none⟩ = some (.int .u8 (o.toNat : Int)) := (hb68.cell (p := ⟨g, 0, none⟩) hg).trans H6.out.2.1.1
  have k1 : w8.cell? ⟨g, 1, none⟩ = some (.slice B1 m1 d1) := (hb68.cell (p := ⟨g, 1, none⟩) hg).trans H6.out.2.1.2.1
  have k2 : w8.cell? ⟨g, 2, none⟩ = some (.slice B2 m2 d2) := (hb68.cell (p := ⟨g, 2, none⟩) hg).trans H6.out.2.1.2.2
  have k3 : w8.cell? ⟨g, 3, none⟩ = some (.int .u8 (t.toNat : Int)) := (hb68.cell (p := ⟨g, 3, none⟩) hg).trans H6.out.2.2.1.1
  have k4 : w8.cell? ⟨g, 4, none⟩ = some (.slice B3 m3 d3) := (hb68.cell (p := ⟨g, 4, none⟩) hg).trans H6.out.2.2.1.2.1
  have k5 : w8.cell? ⟨g, 5, none⟩ = some (.slice B4 m4 d4) := (hb68.cell (p := ⟨g, 5, none⟩) hg).trans H6.out.2.2.1.2.2
  have H8 := Lib.hid (And.intro (And.intro (H6.out.2.2.2.1.1.up hb68) (H6.out.2.2.2.1.2.up hb68)) (And.intro (And.intro (H6.out.2.2.2.2.1.up hb68) (H6.out.2.2.2.2.2.up hb68)) (And.intro (H46.out.1.up hb68) (And.intro (H46.out.2.up hb68) (And.intro (HA.out.1.up hbw8) (HA.out.2.up hbw8))))))
  clear hb8 hb68
  go_wp2_with fail
  refine (eqbytes_any _ _ _ _ _ _ _ _ _ _ _ H8.out.1.1 H8.out.2.2.2.2.1).mono ?_
  rintro e w9 ⟨he, rfl⟩
  rw [eqB_self] at he
  subst he
  go_wp2_with fail
  refine (eqbytes_any _ _ _ _ _ _ _ _ _ _ _ H8.out.2.1.1 H8.out.2.2.2.2.2).mono ?_
  rintro e w10 ⟨he, rfl⟩
  rw [eqB_self] at he
  subst he
  go_wp2_with fail
  refine (eqbytes_any _ _ _ _ _ _ _ _ _ _ _ H8.out.1.2 H8.out.2.2.1).mono ?_
  rintro e w11 ⟨he, rfl⟩
  rw [eqB_self] at he
  subst he
  go_wp2_with fail
  refine (eqbytes_any _ _ _ _ _ _ _ _ _ _ _ H8.out.2.1.2 H8.out.2.2.2.1).mono ?_
  rintro e w12 ⟨he, rfl⟩
  rw [eqB_self] at he
  subst he
  go_wp2_with fail
  refine (works_any _).mono ?_
  rintro e w13 ⟨rfl, hb13⟩
  go_wp2
  go_ret
  exact ⟨rfl, hbw8.trans (hb13.mono hbw8.size)⟩

theorem derTwo_u8 (o t : UInt8) (A1 A2 : Option Addr) (n1 c1 n2 c2 : Nat) (a b : List UInt8) (w : World) (ha : Rd w w.heap.size A1 n1 c1 a) (hb : Rd w w.heap.size A2 n2 c2 b) :
    Calls Try.prog 9 #[.agg #[.int .u8 (o.toNat : Int), .int .u8 (t.toNat : Int), .slice A1 n1 c1, .slice A2 n2 c2]] w (TwoPost w) := by
  by_cases h1 : o.toNat % 32 = 31
  · exact two_tag1 o t A1 A2 n1 c1 n2 c2 w (by simp; omega)
  by_cases h2 : t.toNat % 32 = 31
  · exact two_tag2 o t A1 A2 n1 c1 n2 c2 w (by simp; omega) (by simp; omega)
  by_cases h3 : (8192 : Int) < n1
  · exact two_large1 o t A1 A2 n1 c1 n2 c2 w (by simp; omega) (by simp; omega) h3
  by_cases h4 : (8192 : Int) < n2
  · exact two_large2 o t A1 A2 n1 c1 n2 c2 w (by simp; omega) (by simp; omega) h3 h4
  · exact two_main o t A1 A2 n1 c1 n2 c2 a b w ha hb (by simp; omega) (by simp; omega) h3 h4

theorem derTwo_walk (w : World) (a0 a1 : Int) (w0 : (Lit.int .u8 a0).wf = true) (w1 : (Lit.int .u8 a1).wf = true) (A1 A2 : Option Addr) (n1 c1 n2 c2 : Nat) (a b : List UInt8) (ha : Rd w w.heap.size A1 n1 c1 a) (hb : Rd w w.heap.size A2 n2 c2 b) :
    Calls Try.prog 9 #[.agg #[.int .u8 a0, .int .u8 a1, .slice A1 n1 c1, .slice A2 n2 c2]] w fun e w' => e = .returned (.bool true) ∧ Below w.heap.size w w' := by
  have := derTwo_u8 (UInt8.ofNat a0.toNat) (UInt8.ofNat a1.toNat) A1 A2 n1 c1 n2 c2 a b w ha hb
  rw [u8_of_wf w0, u8_of_wf w1] at this
  exact this
end Go.Proofs.Ytadkiildjehdmaa
