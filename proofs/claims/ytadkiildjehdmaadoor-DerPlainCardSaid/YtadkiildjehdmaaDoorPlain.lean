/- The walk of the law DerPlain. -/
import Derived.Test.YtadkiildjehdmaaDoorPutInt
import Derived.Test.YtadkiildjehdmaaDoorInt
import Derived.Test.YtadkiildjehdmaaDoorWorks
import Derived.Test.YtadkiildjehdmaaDoorApart2
import Derived.Test.YtadkiildjehdmaaDoorOpen
namespace Go.Proofs.YtadkiildjehdmaaDoor
open Go.RowKit
set_option maxRecDepth 1000000
set_option linter.unusedVariables false
set_option linter.unusedSimpArgs false

def PlainPost (w : World) (e : Ending) (w' : World) : Prop := e = .returned (.bool true) ∧ Below w.heap.size w w'

theorem plain_large (A : Option Addr) (n c : Nat) (k : Int) (w : World) (hn : (8192 : Int) < n) :
    Calls Tryd.prog 3 #[.slice A n c, .int .u8 k] w (PlainPost w) := by
  go_enter Tryd.func3, Tryd.ntmps3
  go_wp2_with fail
  refine (large_any A n c _).mono ?_
  rintro e w1 ⟨he, rfl⟩
  rw [decide_eq_true hn] at he
  subst he
  go_wp2_with fail
  refine (works_any _).mono ?_
  rintro e w1 ⟨rfl, hb1⟩
  go_wp2
  go_ret
  exact ⟨rfl, hb1⟩

theorem trim_zeros (k : Nat) (xs : List UInt8) : Der.trim (List.replicate k 0 ++ xs) = Der.trim xs := by
  induction k with
  | zero => rfl
  | succ k ih => rw [List.replicate_succ, List.cons_append, trim_cons0, ih]
theorem putInt_zeros (k : Nat) (xs : List UInt8) : Der.putInt (List.replicate k 0 ++ xs) = Der.putInt xs := by rw [Der.putInt, Der.putInt, trim_zeros]
/-- Where the noughts end. -/
theorem trim_drop (xs : List UInt8) : ∃ F, F ≤ xs.length ∧ Der.trim xs = xs.drop F ∧ (∀ k, k < F → xs[k]? = some 0) ∧ ∀ x, xs[F]? = some x → x ≠ 0 := by
  induction xs with
  | nil => exact ⟨0, Nat.le_refl _, rfl, fun k h => by omega, fun x h => by simp at h⟩
  | cons x xs ih =>
    by_cases h : x = 0
    · subst h
      obtain ⟨F, h1, h2, h3, h4⟩ := ih
      refine ⟨F + 1, by simp; omega, by rw [trim_cons0, h2]; rfl, fun k hk => ?_, fun x hx => h4 x (by simpa using hx)⟩
      cases k with
      | zero => rfl
      | succ k => simpa using h3 k (by omega)
    · refine ⟨0, by omega, by rw [trim_stop xs h]; rfl, fun k h => by omega, fun y hy => ?_⟩
      simp at hy
      rw [← hy]; exact h
theorem int_putInt (xs : List UInt8) : Der.int (Der.putInt xs) = some (Der.trim xs) := by
  obtain ⟨F, h1, h2, h3, h4⟩ := trim_drop xs
  unfold Der.putInt
  cases hy : Der.trim xs with
  | nil => simp [Der.int]
  | cons y ys =>
    have hne : y ≠ 0 := h4 y (by
      have : (xs.drop F)[0]? = some y := by rw [← h2, hy]; rfl
      simpa using this)
    have hn0 : y.toNat ≠ 0 := fun e => hne (UInt8.toNat_inj.1 e)
    by_cases h : 128 ≤ y.toNat
    · rw [if_pos (.inr (by simpa using h))]
      simp only [Der.int]
      rw [if_neg (by simp), if_pos (by simp), if_neg (by omega)]
    · rw [if_neg (by simp; omega)]
      simp only [Der.int]
      rw [if_neg h, if_neg hn0]


set_option maxHeartbeats 4000000 in
theorem plain_nil (A : Option Addr) (n c : Nat) (xs : List UInt8) (k : UInt8) (w : World) (h : Rd w w.heap.size A n c xs) (hn : ¬ (8192 : Int) < n) (hy : Der.trim xs = []) :
    Calls Tryd.prog 3 #[.slice A n c, .int .u8 (k.toNat : Int)] w (PlainPost w) := by
  have hl := h.len
  have hk := k.toNat_lt
  obtain ⟨K, hK⟩ : ∃ K, k.toNat = K := ⟨_, rfl⟩
  rw [hK] at hk ⊢
  have hp : Der.putInt xs = [0] := by rw [Der.putInt, hy]; rfl
  obtain ⟨F, hF1, hF2, hF3, hF4⟩ := trim_drop xs
  have htl := trim_len xs
  have hpl : (Der.putInt xs).length ≤ n + 1 := by unfold Der.putInt; split; (rw [List.length_cons]; omega); omega
  have H := Lib.hid (And.intro h (And.intro hl (And.intro hp (And.intro hy (And.intro hpl (And.intro hF2 (And.intro hF3 (And.intro hF4 htl))))))))
  rw [hl] at hF1
  clear h hl hF2 hF3 hF4 htl hpl hK
  have hmk : ∀ W, (Instr.makeSlice 22 (.int .i64 (K : Int)) (.int .i64 (K : Int))).run Tryd.prog W = .ok (.slice (some ⟨W.heap.size, 0, none⟩) K K) (W.alloc (.cells (zeroB K) 5)) := run_makeB K (by omega)
  have HK := Lib.hid (And.intro hy hp)
  clear hy hp
  go_enter Tryd.func3, Tryd.ntmps3
  go_wp2_with fail
  refine (large_any A n c _).mono ?_
  rintro e w ⟨he, rfl⟩
  rw [decide_eq_false (show ¬ (8192 : Int) < n by omega)] at he
  subst he
  go_wp2_with fail
  refine (putInt_any A n c xs w H.out.1 (by omega)).mono ?_
  rintro e w1 ⟨A2, n2, c2, rfl, ho2, hb1⟩
  have hs1 := hb1.size
  have H1 := Lib.hid (And.intro ho2 (And.intro hb1 (H.out.1.up hb1)))
  clear ho2 hb1
  have hzo : OwnB (w1.alloc (.cells (zeroB K) 5)) w1.heap.size (w1.heap.size + 1) (.slice (some ⟨w1.heap.size, 0, none⟩) K K) (List.replicate K 0) := OwnB.lit w1 (List.replicate K 0) _ K rfl (by simp) (by omega)
  have HZ := Lib.hid hzo
  clear hzo
  go_wp2_with
    (at_builtin
     refine wpList_app rfl (.tmp 19) (.tmp 20) rfl w1.heap.size (w1.heap.size + 1) _ (List.replicate K 0) rfl HZ.out (by simp) _ A n c xs rfl (H1.out.2.2.alloc (Nat.le_refl _) _).rds (by simp; omega) ?_
     intro v3 w3 ho3 hg3 hat3 hb3
     obtain ⟨A3, n3, c3, rfl, hr3⟩ := ho3.rd
     have hn3 : n3 ≤ 10000 := by have h1 := hr3.len; have h2 := H.out.2.1; rw [List.length_append, List.length_replicate] at h1; omega
     have hb13 : Below w1.heap.size w1 w3 := Below.trans (by (repeat (first | exact Below.refl _ _ | assumption | (refine Below.setCell ?_ (by first | omega | (simp; done) | (simp; omega)) _) | (refine Below.alloc ?_ (by first | omega | (simp; done) | (simp; omega)) _) | (refine below_drewN ?_ _) | (refine Below.drew ?_)))) hb3
     have H3 := Lib.hid (And.intro hr3 hb13)
     have hs3 := hb13.size
     clear ho3 hg3 hat3 hb3 hr3 hb13)
  refine (putInt_any A3 n3 c3 _ w3 H3.out.1 (by omega)).mono ?_
  rw [putInt_zeros]
  rintro e w4 ⟨A4, n4, c4, rfl, ho4, hb4⟩
  have hb14 : Below w1.heap.size w1 w4 := H3.out.2.trans (hb4.mono hs3)
  have hs14 := hb14.size
  have H4 := Lib.hid (And.intro (Rd.of_own ho4) (And.intro hb14 ((Rd.of_own H1.out.1).up hb14)))
  clear ho4 hb4 hb14
  go_wp2_with fail
  refine (int_any A2 n2 c2 _ w4 H4.out.2.2 (by have := H4.out.2.2.len; have := H.out.2.2.2.2.1; omega)).mono ?_
  rw [show IntPost (Der.putInt xs) w4 = IntPost (Der.putInt xs) w4 from rfl]
  rintro e w5 ⟨hb5, ⟨hno, _⟩ | ⟨ys', A5, n5, c5, hsome, rfl, ho5⟩⟩
  · rw [int_putInt] at hno; cases hno
  rw [int_putInt] at hsome
  injection hsome with hsome
  subst hsome
  have hy := HK.out.1
  have hp := HK.out.2
  have ho2 := H1.out.1
  have hr2 := Rd.of_own H1.out.1
  have hr5 := Rd.of_own ho5
  obtain rfl : n2 = 1 := by rw [← hr2.len, hp]; rfl
  obtain ⟨g2, cap2, e2, _, _⟩ := ho2.1.form (by rw [hp]; simp)
  injection e2 with e2a e2b e2c
  subst e2a
  clear e2b e2c
  have hcp : ∀ W, Below w1.heap.size w1 W → W.cell? ⟨g2, 0, none⟩ = some (.int .u8 0) := fun W hW => by
    obtain ⟨x, hx, hc⟩ := (hr2.below hW).get (k := 0) (by omega)
    rw [hp] at hx
    simp at hx
    rw [← hx] at hc
    exact hc
  obtain rfl : n5 = 0 := by have := hr5.len; rw [hy] at this; simpa using this.symm
  have hb15 : Below w1.heap.size w1 w5 := H4.out.2.1.trans (hb5.mono hs14)
  have hcp5 := hcp w5 hb15
  have H5 := Lib.hid (And.intro (H4.out.1.up hb5) (And.intro (H4.out.2.2.up hb5) (And.intro hr5 (And.intro (H1.out.2.2.up hb15) (H1.out.2.1.trans (hb15.mono hs1))))))
  clear hb5 ho5 hr5 hr2 ho2 hcp hb15 hy hp
  go_wp2_with fail
  refine (eqbytes_same _ _ _ _ _ _ _ _ _ _ H5.out.2.1 H5.out.1).mono ?_
  rintro e w5 ⟨rfl, rfl⟩
  go_wp2_with fail
  go_loop [10] (fun i => ∃ j : Nat, j ≤ F ∧ i = .int .i64 j) (fun i => F - (intOf i).toNat)
  case atStart => exact ⟨0, Nat.zero_le _, rfl⟩
  case round =>
    obtain ⟨j, hj, rfl⟩ := hrel
    by_cases hlt : j < F
    · have hlt' : (j : Int) < n := by omega
      have hx := H.out.2.2.2.2.2.2.1 j hlt
      obtain ⟨b, o, rfl, hbB, hcell⟩ := H5.out.2.2.2.1.at_ (by omega)
      have hcj : w5.cell? ⟨b, o + j, none⟩ = some (.int .u8 0) := hcell j 0 hx
      clear hcell hx
      go_wp2_with fail
      go_round
      case rel => exact ⟨j + 1, by omega, by go_num⟩
      case measure => simp [intOf]; omega
    · obtain rfl : F = j := by omega
      obtain ⟨A6, hr6, _, hcut⟩ := run_cut_lo H5.out.2.2.2.1 F (F : Int) rfl hF1
      rw [← H.out.2.2.2.2.2.1] at hr6
      have HC := Lib.hid hr6
      clear hr6
      by_cases hFn : F < n
      · have hFn' : (F : Int) < n := by omega
        obtain ⟨b, o, rfl, hbB, hcell⟩ := H5.out.2.2.2.1.at_ (by omega)
        obtain ⟨x, hx, hcx⟩ := H5.out.2.2.2.1.get hFn
        have hx0 := H.out.2.2.2.2.2.2.2.1 x hx
        have hne : ((x.toNat : Int) == 0) = false := by
          have : x.toNat ≠ 0 := fun e => hx0 (UInt8.toNat_inj.1 e)
          simp; omega
        clear hcell hx hx0
        go_wp2_with fail
        refine (eqbytes_same _ _ _ _ _ _ _ _ _ _ H5.out.2.2.1 HC.out).mono ?_
        rintro e w5 ⟨rfl, rfl⟩
        go_wp2_with fail
        refine (works_any _).mono ?_
        rintro e w8 ⟨rfl, hb8⟩
        go_wp2
        go_ret
        exact ⟨rfl, H5.out.2.2.2.2.trans (hb8.mono H5.out.2.2.2.2.size)⟩
      · have hFn' : ¬ (F : Int) < n := by omega
        go_wp2_with fail
        refine (eqbytes_same _ _ _ _ _ _ _ _ _ _ H5.out.2.2.1 HC.out).mono ?_
        rintro e w5 ⟨rfl, rfl⟩
        go_wp2_with fail
        refine (works_any _).mono ?_
        rintro e w8 ⟨rfl, hb8⟩
        go_wp2
        go_ret
        exact ⟨rfl, H5.out.2.2.2.2.trans (hb8.mono H5.out.2.2.2.2.size)⟩


set_option maxHeartbeats 4000000 in
theorem plain_big (A : Option Addr) (n c : Nat) (xs : List UInt8) (k : UInt8) (w : World) (h : Rd w w.heap.size A n c xs) (hn : ¬ (8192 : Int) < n) (y : UInt8) (ys : List UInt8) (hy : Der.trim xs = y :: ys) (h8 : (128 : Int) ≤ y.toNat) :
    Calls Tryd.prog 3 #[.slice A n c, .int .u8 (k.toNat : Int)] w (PlainPost w) := by
  have hl := h.len
  have hk := k.toNat_lt
  obtain ⟨K, hK⟩ : ∃ K, k.toNat = K := ⟨_, rfl⟩
  rw [hK] at hk ⊢
  have hp : Der.putInt xs = 0 :: y :: ys := by rw [Der.putInt, hy, if_pos (.inr (by simp; omega))]
  obtain ⟨F, hF1, hF2, hF3, hF4⟩ := trim_drop xs
  have htl := trim_len xs
  have hpl : (Der.putInt xs).length ≤ n + 1 := by unfold Der.putInt; split; (rw [List.length_cons]; omega); omega
  have H := Lib.hid (And.intro h (And.intro hl (And.intro hp (And.intro hy (And.intro hpl (And.intro hF2 (And.intro hF3 (And.intro hF4 htl))))))))
  rw [hl] at hF1
  clear h hl hF2 hF3 hF4 htl hpl hK
  have hmk : ∀ W, (Instr.makeSlice 22 (.int .i64 (K : Int)) (.int .i64 (K : Int))).run Tryd.prog W = .ok (.slice (some ⟨W.heap.size, 0, none⟩) K K) (W.alloc (.cells (zeroB K) 5)) := run_makeB K (by omega)
  have HK := Lib.hid (And.intro hy hp)
  clear hy hp
  go_enter Tryd.func3, Tryd.ntmps3
  go_wp2_with fail
  refine (large_any A n c _).mono ?_
  rintro e w ⟨he, rfl⟩
  rw [decide_eq_false (show ¬ (8192 : Int) < n by omega)] at he
  subst he
  go_wp2_with fail
  refine (putInt_any A n c xs w H.out.1 (by omega)).mono ?_
  rintro e w1 ⟨A2, n2, c2, rfl, ho2, hb1⟩
  have hs1 := hb1.size
  have H1 := Lib.hid (And.intro ho2 (And.intro hb1 (H.out.1.up hb1)))
  clear ho2 hb1
  have hzo : OwnB (w1.alloc (.cells (zeroB K) 5)) w1.heap.size (w1.heap.size + 1) (.slice (some ⟨w1.heap.size, 0, none⟩) K K) (List.replicate K 0) := OwnB.lit w1 (List.replicate K 0) _ K rfl (by simp) (by omega)
  have HZ := Lib.hid hzo
  clear hzo
  go_wp2_with
    (at_builtin
     refine wpList_app rfl (.tmp 19) (.tmp 20) rfl w1.heap.size (w1.heap.size + 1) _ (List.replicate K 0) rfl HZ.out (by simp) _ A n c xs rfl (H1.out.2.2.alloc (Nat.le_refl _) _).rds (by simp; omega) ?_
     intro v3 w3 ho3 hg3 hat3 hb3
     obtain ⟨A3, n3, c3, rfl, hr3⟩ := ho3.rd
     have hn3 : n3 ≤ 10000 := by have h1 := hr3.len; have h2 := H.out.2.1; rw [List.length_append, List.length_replicate] at h1; omega
     have hb13 : Below w1.heap.size w1 w3 := Below.trans (by (repeat (first | exact Below.refl _ _ | assumption | (refine Below.setCell ?_ (by first | omega | (simp; done) | (simp; omega)) _) | (refine Below.alloc ?_ (by first | omega | (simp; done) | (simp; omega)) _) | (refine below_drewN ?_ _) | (refine Below.drew ?_)))) hb3
     have H3 := Lib.hid (And.intro hr3 hb13)
     have hs3 := hb13.size
     clear ho3 hg3 hat3 hb3 hr3 hb13)
  refine (putInt_any A3 n3 c3 _ w3 H3.out.1 (by omega)).mono ?_
  rw [putInt_zeros]
  rintro e w4 ⟨A4, n4, c4, rfl, ho4, hb4⟩
  have hb14 : Below w1.heap.size w1 w4 := H3.out.2.trans (hb4.mono hs3)
  have hs14 := hb14.size
  have H4 := Lib.hid (And.intro (Rd.of_own ho4) (And.intro hb14 ((Rd.of_own H1.out.1).up hb14)))
  clear ho4 hb4 hb14
  go_wp2_with fail
  refine (int_any A2 n2 c2 _ w4 H4.out.2.2 (by have := H4.out.2.2.len; have := H.out.2.2.2.2.1; omega)).mono ?_
  rw [show IntPost (Der.putInt xs) w4 = IntPost (Der.putInt xs) w4 from rfl]
  rintro e w5 ⟨hb5, ⟨hno, _⟩ | ⟨ys', A5, n5, c5, hsome, rfl, ho5⟩⟩
  · rw [int_putInt] at hno; cases hno
  rw [int_putInt] at hsome
  injection hsome with hsome
  subst hsome
  have hy := HK.out.1
  have hp := HK.out.2
  have ho2 := H1.out.1
  have hr2 := Rd.of_own H1.out.1
  have hr5 := Rd.of_own ho5
  have hn2 : n2 = ys.length + 2 := by rw [← hr2.len, hp]; simp
  obtain ⟨g2, cap2, e2, _, _⟩ := ho2.1.form (by rw [hp]; simp)
  injection e2 with e2a e2b e2c
  subst e2a
  clear e2b e2c
  have hcp : ∀ W, Below w1.heap.size w1 W → W.cell? ⟨g2, 0, none⟩ = some (.int .u8 0) := fun W hW => by
    obtain ⟨x, hx, hc⟩ := (hr2.below hW).get (k := 0) (by omega)
    rw [hp] at hx
    simp at hx
    rw [← hx] at hc
    exact hc
  have hn5 : n5 = ys.length + 1 := by have := hr5.len; rw [hy] at this; simpa using this.symm
  have hbd5 : n5 ≤ 8192 := by have h1 := H.out.2.2.2.2.2.2.2.2; have h2 := H.out.2.1; rw [hy, List.length_cons] at h1; omega
  have hne5 : ((n5 : Int) == 0) = false := by simp; omega
  have hpos5 : 0 < n5 := by omega
  have hcmp : ((n2 : Int) == (n5 : Int) + 1) = true := by simp; omega
  obtain ⟨g5, cap5, e5, _, _⟩ := ho5.1.form (by rw [hy]; simp)
  injection e5 with e5a e5b e5c
  subst e5a
  clear e5b e5c
  have hcn : w5.cell? ⟨g5, 0, none⟩ = some (.int .u8 (y.toNat : Int)) := by
    obtain ⟨x, hx, hc⟩ := hr5.get (k := 0) (by omega)
    rw [hy] at hx
    simp at hx
    rw [← hx] at hc
    exact hc
  have hpos2 : 0 < n2 := by omega
  have hne2 : ((n2 : Int) == 0) = false := by simp; omega
  clear hn2 hn5
  have hb15 : Below w1.heap.size w1 w5 := H4.out.2.1.trans (hb5.mono hs14)
  have hcp5 := hcp w5 hb15
  have H5 := Lib.hid (And.intro (H4.out.1.up hb5) (And.intro (H4.out.2.2.up hb5) (And.intro hr5 (And.intro (H1.out.2.2.up hb15) (H1.out.2.1.trans (hb15.mono hs1))))))
  clear hb5 ho5 hr5 hr2 ho2 hcp hb15 hy hp
  go_wp2_with fail
  refine (eqbytes_same _ _ _ _ _ _ _ _ _ _ H5.out.2.1 H5.out.1).mono ?_
  rintro e w5 ⟨rfl, rfl⟩
  go_wp2_with fail
  go_loop [10] (fun i => ∃ j : Nat, j ≤ F ∧ i = .int .i64 j) (fun i => F - (intOf i).toNat)
  case atStart => exact ⟨0, Nat.zero_le _, rfl⟩
  case round =>
    obtain ⟨j, hj, rfl⟩ := hrel
    by_cases hlt : j < F
    · have hlt' : (j : Int) < n := by omega
      have hx := H.out.2.2.2.2.2.2.1 j hlt
      obtain ⟨b, o, rfl, hbB, hcell⟩ := H5.out.2.2.2.1.at_ (by omega)
      have hcj : w5.cell? ⟨b, o + j, none⟩ = some (.int .u8 0) := hcell j 0 hx
      clear hcell hx
      go_wp2_with fail
      go_round
      case rel => exact ⟨j + 1, by omega, by go_num⟩
      case measure => simp [intOf]; omega
    · obtain rfl : F = j := by omega
      obtain ⟨A6, hr6, _, hcut⟩ := run_cut_lo H5.out.2.2.2.1 F (F : Int) rfl hF1
      rw [← H.out.2.2.2.2.2.1] at hr6
      have HC := Lib.hid hr6
      clear hr6
      by_cases hFn : F < n
      · have hFn' : (F : Int) < n := by omega
        obtain ⟨b, o, rfl, hbB, hcell⟩ := H5.out.2.2.2.1.at_ (by omega)
        obtain ⟨x, hx, hcx⟩ := H5.out.2.2.2.1.get hFn
        have hx0 := H.out.2.2.2.2.2.2.2.1 x hx
        have hne : ((x.toNat : Int) == 0) = false := by
          have : x.toNat ≠ 0 := fun e => hx0 (UInt8.toNat_inj.1 e)
          simp; omega
        clear hcell hx hx0
        go_wp2_with fail
        refine (eqbytes_same _ _ _ _ _ _ _ _ _ _ H5.out.2.2.1 HC.out).mono ?_
        rintro e w5 ⟨rfl, rfl⟩
        go_wp2_with fail
        refine (works_any _).mono ?_
        rintro e w8 ⟨rfl, hb8⟩
        go_wp2
        go_ret
        exact ⟨rfl, H5.out.2.2.2.2.trans (hb8.mono H5.out.2.2.2.2.size)⟩
      · have hFn' : ¬ (F : Int) < n := by omega
        go_wp2_with fail
        refine (eqbytes_same _ _ _ _ _ _ _ _ _ _ H5.out.2.2.1 HC.out).mono ?_
        rintro e w5 ⟨rfl, rfl⟩
        go_wp2_with fail
        refine (works_any _).mono ?_
        rintro e w8 ⟨rfl, hb8⟩
        go_wp2
        go_ret
        exact ⟨rfl, H5.out.2.2.2.2.trans (hb8.mono H5.out.2.2.2.2.size)⟩


set_option maxHeartbeats 4000000 in
theorem plain_low (A : Option Addr) (n c : Nat) (xs : List UInt8) (k : UInt8) (w : World) (h : Rd w w.heap.size A n c xs) (hn : ¬ (8192 : Int) < n) (y : UInt8) (ys : List UInt8) (hy : Der.trim xs = y :: ys) (h8 : ¬ (128 : Int) ≤ y.toNat) :
    Calls Tryd.prog 3 #[.slice A n c, .int .u8 (k.toNat : Int)] w (PlainPost w) := by
  have hl := h.len
  have hk := k.toNat_lt
  obtain ⟨K, hK⟩ : ∃ K, k.toNat = K := ⟨_, rfl⟩
  rw [hK] at hk ⊢
  have hp : Der.putInt xs = y :: ys := by rw [Der.putInt, hy, if_neg (by simp; omega)]
  obtain ⟨F, hF1, hF2, hF3, hF4⟩ := trim_drop xs
  have htl := trim_len xs
  have hpl : (Der.putInt xs).length ≤ n + 1 := by unfold Der.putInt; split; (rw [List.length_cons]; omega); omega
  have H := Lib.hid (And.intro h (And.intro hl (And.intro hp (And.intro hy (And.intro hpl (And.intro hF2 (And.intro hF3 (And.intro hF4 htl))))))))
  rw [hl] at hF1
  clear h hl hF2 hF3 hF4 htl hpl hK
  have hmk : ∀ W, (Instr.makeSlice 22 (.int .i64 (K : Int)) (.int .i64 (K : Int))).run Tryd.prog W = .ok (.slice (some ⟨W.heap.size, 0, none⟩) K K) (W.alloc (.cells (zeroB K) 5)) := run_makeB K (by omega)
  have HK := Lib.hid (And.intro hy hp)
  clear hy hp
  go_enter Tryd.func3, Tryd.ntmps3
  go_wp2_with fail
  refine (large_any A n c _).mono ?_
  rintro e w ⟨he, rfl⟩
  rw [decide_eq_false (show ¬ (8192 : Int) < n by omega)] at he
  subst he
  go_wp2_with fail
  refine (putInt_any A n c xs w H.out.1 (by omega)).mono ?_
  rintro e w1 ⟨A2, n2, c2, rfl, ho2, hb1⟩
  have hs1 := hb1.size
  have H1 := Lib.hid (And.intro ho2 (And.intro hb1 (H.out.1.up hb1)))
  clear ho2 hb1
  have hzo : OwnB (w1.alloc (.cells (zeroB K) 5)) w1.heap.size (w1.heap.size + 1) (.slice (some ⟨w1.heap.size, 0, none⟩) K K) (List.replicate K 0) := OwnB.lit w1 (List.replicate K 0) _ K rfl (by simp) (by omega)
  have HZ := Lib.hid hzo
  clear hzo
  go_wp2_with
    (at_builtin
     refine wpList_app rfl (.tmp 19) (.tmp 20) rfl w1.heap.size (w1.heap.size + 1) _ (List.replicate K 0) rfl HZ.out (by simp) _ A n c xs rfl (H1.out.2.2.alloc (Nat.le_refl _) _).rds (by simp; omega) ?_
     intro v3 w3 ho3 hg3 hat3 hb3
     obtain ⟨A3, n3, c3, rfl, hr3⟩ := ho3.rd
     have hn3 : n3 ≤ 10000 := by have h1 := hr3.len; have h2 := H.out.2.1; rw [List.length_append, List.length_replicate] at h1; omega
     have hb13 : Below w1.heap.size w1 w3 := Below.trans (by (repeat (first | exact Below.refl _ _ | assumption | (refine Below.setCell ?_ (by first | omega | (simp; done) | (simp; omega)) _) | (refine Below.alloc ?_ (by first | omega | (simp; done) | (simp; omega)) _) | (refine below_drewN ?_ _) | (refine Below.drew ?_)))) hb3
     have H3 := Lib.hid (And.intro hr3 hb13)
     have hs3 := hb13.size
     clear ho3 hg3 hat3 hb3 hr3 hb13)
  refine (putInt_any A3 n3 c3 _ w3 H3.out.1 (by omega)).mono ?_
  rw [putInt_zeros]
  rintro e w4 ⟨A4, n4, c4, rfl, ho4, hb4⟩
  have hb14 : Below w1.heap.size w1 w4 := H3.out.2.trans (hb4.mono hs3)
  have hs14 := hb14.size
  have H4 := Lib.hid (And.intro (Rd.of_own ho4) (And.intro hb14 ((Rd.of_own H1.out.1).up hb14)))
  clear ho4 hb4 hb14
  go_wp2_with fail
  refine (int_any A2 n2 c2 _ w4 H4.out.2.2 (by have := H4.out.2.2.len; have := H.out.2.2.2.2.1; omega)).mono ?_
  rw [show IntPost (Der.putInt xs) w4 = IntPost (Der.putInt xs) w4 from rfl]
  rintro e w5 ⟨hb5, ⟨hno, _⟩ | ⟨ys', A5, n5, c5, hsome, rfl, ho5⟩⟩
  · rw [int_putInt] at hno; cases hno
  rw [int_putInt] at hsome
  injection hsome with hsome
  subst hsome
  have hy := HK.out.1
  have hp := HK.out.2
  have ho2 := H1.out.1
  have hr2 := Rd.of_own H1.out.1
  have hr5 := Rd.of_own ho5
  have hn2 : n2 = ys.length + 1 := by rw [← hr2.len, hp]; simp
  obtain ⟨g2, cap2, e2, _, _⟩ := ho2.1.form (by rw [hp]; simp)
  injection e2 with e2a e2b e2c
  subst e2a
  clear e2b e2c
  have hcp : ∀ W, Below w1.heap.size w1 W → W.cell? ⟨g2, 0, none⟩ = some (.int .u8 (y.toNat : Int)) := fun W hW => by
    obtain ⟨x, hx, hc⟩ := (hr2.below hW).get (k := 0) (by omega)
    rw [hp] at hx
    simp at hx
    rw [← hx] at hc
    exact hc
  have hn5 : n5 = ys.length + 1 := by have := hr5.len; rw [hy] at this; simpa using this.symm
  have hbd5 : n5 ≤ 8192 := by have h1 := H.out.2.2.2.2.2.2.2.2; have h2 := H.out.2.1; rw [hy, List.length_cons] at h1; omega
  have hne5 : ((n5 : Int) == 0) = false := by simp; omega
  have hpos5 : 0 < n5 := by omega
  have hcmp : ((n2 : Int) == (n5 : Int) + 1) = false := by simp; omega
  obtain ⟨g5, cap5, e5, _, _⟩ := ho5.1.form (by rw [hy]; simp)
  injection e5 with e5a e5b e5c
  subst e5a
  clear e5b e5c
  have hcn : w5.cell? ⟨g5, 0, none⟩ = some (.int .u8 (y.toNat : Int)) := by
    obtain ⟨x, hx, hc⟩ := hr5.get (k := 0) (by omega)
    rw [hy] at hx
    simp at hx
    rw [← hx] at hc
    exact hc
  have hpos2 : 0 < n2 := by omega
  have hne2 : ((n2 : Int) == 0) = false := by simp; omega
  clear hn2 hn5
  have hd8 : decide ((128 : Int) ≤ (y.toNat : Int)) = false := decide_eq_false (by omega)
  have hb15 : Below w1.heap.size w1 w5 := H4.out.2.1.trans (hb5.mono hs14)
  have hcp5 := hcp w5 hb15
  have H5 := Lib.hid (And.intro (H4.out.1.up hb5) (And.intro (H4.out.2.2.up hb5) (And.intro hr5 (And.intro (H1.out.2.2.up hb15) (H1.out.2.1.trans (hb15.mono hs1))))))
  clear hb5 ho5 hr5 hr2 ho2 hcp hb15 hy hp
  go_wp2_with fail
  refine (eqbytes_same _ _ _ _ _ _ _ _ _ _ H5.out.2.1 H5.out.1).mono ?_
  rintro e w5 ⟨rfl, rfl⟩
  go_wp2_with fail
  go_loop [10] (fun i => ∃ j : Nat, j ≤ F ∧ i = .int .i64 j) (fun i => F - (intOf i).toNat)
  case atStart => exact ⟨0, Nat.zero_le _, rfl⟩
  case round =>
    obtain ⟨j, hj, rfl⟩ := hrel
    by_cases hlt : j < F
    · have hlt' : (j : Int) < n := by omega
      have hx := H.out.2.2.2.2.2.2.1 j hlt
      obtain ⟨b, o, rfl, hbB, hcell⟩ := H5.out.2.2.2.1.at_ (by omega)
      have hcj : w5.cell? ⟨b, o + j, none⟩ = some (.int .u8 0) := hcell j 0 hx
      clear hcell hx
      go_wp2_with fail
      go_round
      case rel => exact ⟨j + 1, by omega, by go_num⟩
      case measure => simp [intOf]; omega
    · obtain rfl : F = j := by omega
      obtain ⟨A6, hr6, _, hcut⟩ := run_cut_lo H5.out.2.2.2.1 F (F : Int) rfl hF1
      rw [← H.out.2.2.2.2.2.1] at hr6
      have HC := Lib.hid hr6
      clear hr6
      by_cases hFn : F < n
      · have hFn' : (F : Int) < n := by omega
        obtain ⟨b, o, rfl, hbB, hcell⟩ := H5.out.2.2.2.1.at_ (by omega)
        obtain ⟨x, hx, hcx⟩ := H5.out.2.2.2.1.get hFn
        have hx0 := H.out.2.2.2.2.2.2.2.1 x hx
        have hne : ((x.toNat : Int) == 0) = false := by
          have : x.toNat ≠ 0 := fun e => hx0 (UInt8.toNat_inj.1 e)
          simp; omega
        clear hcell hx hx0
        go_wp2_with fail
        refine (eqbytes_same _ _ _ _ _ _ _ _ _ _ H5.out.2.2.1 HC.out).mono ?_
        rintro e w5 ⟨rfl, rfl⟩
        go_wp2_with fail
        refine (works_any _).mono ?_
        rintro e w8 ⟨rfl, hb8⟩
        go_wp2
        go_ret
        exact ⟨rfl, H5.out.2.2.2.2.trans (hb8.mono H5.out.2.2.2.2.size)⟩
      · have hFn' : ¬ (F : Int) < n := by omega
        go_wp2_with fail
        refine (eqbytes_same _ _ _ _ _ _ _ _ _ _ H5.out.2.2.1 HC.out).mono ?_
        rintro e w5 ⟨rfl, rfl⟩
        go_wp2_with fail
        refine (works_any _).mono ?_
        rintro e w8 ⟨rfl, hb8⟩
        go_wp2
        go_ret
        exact ⟨rfl, H5.out.2.2.2.2.trans (hb8.mono H5.out.2.2.2.2.size)⟩


theorem derPlain_walk (w : World) (A : Option Addr) (n c : Nat) (xs : List UInt8) (h : Rd w w.heap.size A n c xs) (a1 : Int) (w1 : (Lit.int .u8 a1).wf = true) :
    Calls Tryd.prog 3 #[.slice A n c, .int .u8 a1] w fun e w' => e = .returned (.bool true) ∧ Below w.heap.size w w' := by
  by_cases hn : (8192 : Int) < n
  · exact plain_large A n c a1 w hn
  rw [← u8_of_wf w1]
  cases hy : Der.trim xs with
  | nil => exact plain_nil A n c xs _ w h hn hy
  | cons y ys =>
    by_cases h8 : (128 : Int) ≤ y.toNat
    · exact plain_big A n c xs _ w h hn y ys hy h8
    · exact plain_low A n c xs _ w h hn y ys hy h8
end Go.Proofs.YtadkiildjehdmaaDoor
