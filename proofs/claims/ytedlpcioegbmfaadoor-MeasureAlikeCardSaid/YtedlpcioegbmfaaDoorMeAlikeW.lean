/- The walk of the law MeasureAlike. -/
import Derived.Test.YtedlpcioegbmfaaDoorMeWorks
import Derived.Test.YtedlpcioegbmfaaDoorMeRow
import Derived.Test.YtedlpcioegbmfaaDoorPeFr
import Derived.Test.YtedlpcioegbmfaaDoorMePlain2
import Derived.Deep.RegionHeld3
namespace Go.Proofs.YtedlpcioegbmfaaDoor
open Go.RowKit
set_option maxRecDepth 100000
set_option linter.unusedVariables false
set_option linter.unusedSimpArgs false
structure B3 (w w1 w2 w4 : World) : Prop where
  a : Below w1.heap.size w1 w4
  b : Below w2.heap.size w2 w4
  c : Below w.heap.size w w4
set_option maxHeartbeats 8000000 in
theorem measureAlike_walk (w : World) (A : Option Addr) (n c : Nat) (xs : List UInt8) (hr : Rd w w.heap.size A n c xs) (A' : Option Addr) (n' c' : Nat) (ys : List UInt8) (hr' : Rd w w.heap.size A' n' c' ys) :
    Calls Tryd.prog 5 #[.slice A n c, .slice A' n' c'] w fun e w' => e = .returned (.bool true) ∧ Below w.heap.size w w' := by
  have H := Lib.hid (And.intro hr hr')
  have hlx := hr.len
  have hly := hr'.len
  clear hr hr'
  by_cases hsm : n ≤ 8192 ∧ n' ≤ 8192
  · obtain ⟨hs1, hs2⟩ := hsm
    have hn1 : n ≤ 16777216 := by omega
    have hn2 : n' ≤ 16777216 := by omega
    have q1 : ¬ ((8192 : Int) < (n : Int)) := by omega
    have q2 : ¬ ((8192 : Int) < (n' : Int)) := by omega
    have HL := Lib.hid (And.intro hlx hly)
    clear hlx hly
    go_enter Tryd.func5, Tryd.ntmps5
    go_wp2_with fail
    refine (ranges_out A n c xs w H.out.1 hn1).mono ?_
    rintro e w1 ⟨hb1, R, k, rc, er, rfl, her, hk0, hP⟩
    have H1 := Lib.hid (And.intro hb1 (And.intro her (And.intro hk0 hP)))
    clear hb1 her hk0 hP
    go_wp2_with fail
    refine (ranges_out A' n' c' ys w1 (H.out.2.up H1.out.1) hn2).mono ?_
    rintro e w2 ⟨hb2, R', k', rc', er', rfl, her', hk0', hP'⟩
    have hb02 := H1.out.1.trans (hb2.mono H1.out.1.size)
    have H2 := Lib.hid (And.intro hb2 (And.intro her' (And.intro hk0' (And.intro hP' hb02))))
    clear hb2 her' hk0' hP' hb02
    go_wp2_with fail
    refine (digest_any A n c xs w2 (H.out.1.up H2.out.2.2.2.2) hn1).mono ?_
    rintro e w3a ⟨hbw3a, S, C, e1, rfl, hSS, herS, hlS, honeC, hzC, hokC⟩
    have ES := Lib.hid (And.intro hbw3a (And.intro hSS (And.intro herS (And.intro hlS (And.intro honeC (And.intro hzC hokC))))))
    clear hbw3a hSS herS hlS honeC hzC hokC
    go_wp2_with (first
      | ((with_reducible refine at_store_t 31 ?_); refine wpList_store_b32 rfl _ _ rfl w3a.heap.size z32 S rfl ES.out.2.2.2.1 rfl rfl (dW_b w3a) ?_; intro w3b hBw3b hgw3b)
      | ((with_reducible refine at_store_img ?_); refine wpList_store_img rfl _ _ rfl (w3a.heap.size + 1) IV.zero C rfl rfl ((dW_i w3a).grown hgw3b (fun e => by injection e with e; omega)) ES.out.2.2.2.2.1 ?_; intro w3 hBw3 hgw3)
      | fail)
    have Dw3 := digAt (xs := xs) ES.out.1 hgw3b hBw3b hgw3 hBw3
    have Iw3 : e1 = 0 → ImgOwn xs C w2.heap.size w3 := fun h => (ES.out.2.2.2.2.2.2 h).later (digBelow hgw3b hgw3)
    obtain ⟨db, hdb⟩ : ∃ g, w3a.heap.size = g := ⟨_, rfl⟩
    rw [hdb] at Dw3 ⊢
    have DS := Lib.hid (And.intro Dw3 Iw3)
    clear hBw3b hgw3b hBw3 hgw3 Dw3 hdb Iw3
    have hb03 := H2.out.2.2.2.2.trans (DS.out.1.below.mono H2.out.2.2.2.2.size)
    have H3 := Lib.hid hb03
    clear hb03
    refine (digest_any A' n' c' ys w3 (H.out.2.up H3.out) hn2).mono ?_
    rintro e w4a ⟨hbw4a, T, D, e2, rfl, hST, herT, hlT, honeD, hzD, hokD⟩
    have ET := Lib.hid (And.intro hbw4a (And.intro hST (And.intro herT (And.intro hlT (And.intro honeD (And.intro hzD hokD))))))
    clear hbw4a hST herT hlT honeD hzD hokD
    go_upto_region 7 with (first
      | ((with_reducible refine at_store_t 31 ?_); refine wpList_store_b32 rfl _ _ rfl w4a.heap.size z32 T rfl ET.out.2.2.2.1 rfl rfl (dW_b w4a) ?_; intro w4b hBw4b hgw4b)
      | ((with_reducible refine at_store_img ?_); refine wpList_store_img rfl _ _ rfl (w4a.heap.size + 1) IV.zero D rfl rfl ((dW_i w4a).grown hgw4b (fun e => by injection e with e; omega)) ET.out.2.2.2.2.1 ?_; intro w4 hBw4 hgw4)
      | fail)
    have Dw4 := digAt (xs := ys) ET.out.1 hgw4b hBw4b hgw4 hBw4
    have Iw4 : e2 = 0 → ImgOwn ys D w3.heap.size w4 := fun h => (ET.out.2.2.2.2.2.2 h).later (digBelow hgw4b hgw4)
    obtain ⟨dc, hdc⟩ : ∃ g, w4a.heap.size = g := ⟨_, rfl⟩
    rw [hdc] at Dw4 ⊢
    have DT := Lib.hid (And.intro Dw4 Iw4)
    clear hBw4b hgw4b hBw4 hgw4 Dw4 hdc Iw4
    have hb04 := H3.out.trans (DT.out.1.below.mono H3.out.size)
    have H4 := Lib.hid hb04
    clear hb04
    by_cases h1 : er = 0
    · by_cases h2 : er' = 0
      · have hPA := H1.out.2.2.2 h1
        have hPB := H2.out.2.2.2.1 h2
        have heA : Pe.err xs = 0 := H1.out.2.1.trans h1
        have heB : Pe.err ys = 0 := H2.out.2.1.trans h2
        have HP := Lib.hid (And.intro hPA (And.intro hPB (And.intro heA heB)))
        clear hPA hPB heA heB
        subst h1 h2
        go_upto_region 10 with fail
        have hk1 : k ≤ 200 := by
          have h1 := HP.out.1.len
          have h2 := Pe.ranges_len xs
          have h3 := (meB HP.out.2.2.1 (by rw [HL.out.1]; omega)).many
          split at h2 <;> omega
        have hk2 : k' ≤ 200 := by
          have h1 := HP.out.2.1.len
          have h2 := Pe.ranges_len ys
          have h3 := (meB HP.out.2.2.2 (by rw [HL.out.2]; omega)).many
          split at h2 <;> omega
        have hB14 : Below w1.heap.size w1 w4 := H2.out.1.trans ((DS.out.1.below.trans (DT.out.1.below.mono DS.out.1.below.size)).mono H2.out.1.size)
        have hB24 : Below w2.heap.size w2 w4 := DS.out.1.below.trans (DT.out.1.below.mono DS.out.1.below.size)
        have HBB : B3 w w1 w2 w4 := ⟨hB14, hB24, H4.out⟩
        have HBB := Lib.hid HBB
        clear hB14 hB24
        go_wp2_with fail
        go_loopw [15, 17] (fun p i wr => ∃ j : Nat, j ≤ k ∧ i = .int .i64 (j : Int) ∧ OwnB wr w4.heap.size wr.heap.size p (Pe.hashedOf xs ((Pe.ranges xs).take j)) ∧ Below w4.heap.size w4 wr) (fun _ i _ => k - (intOf i).toNat)
        case atStart => exact ⟨0, Nat.zero_le _, rfl, OwnB.nil_, Below.refl _ _⟩
        case round =>
          obtain ⟨j, hj, rfl, ho, hb⟩ := hrel
          by_cases hlt : j < k
          · obtain ⟨b, o, x, hR, hbk, hx, hc0, hc1⟩ := (HP.out.1).get hlt
            subst hR
            obtain ⟨lo, hi⟩ := x
            obtain ⟨hf1, hf2⟩ := ranges_fit HP.out.2.2.1 (lo, hi) (List.mem_of_getElem? hx)
            dsimp only at hf1 hf2 hc0 hc1
            have hcap := (H.out.1).cap
            have hlen := (H.out.1).len
            have hBr : Below w1.heap.size w1 wr := HBB.out.a.trans (hb.mono HBB.out.a.size)
            have c0 := (hBr.cell (p := ⟨b, o + j * 2, none⟩) hbk).trans hc0
            have c1 := (hBr.cell (p := ⟨b, o + j * 2 + 1, none⟩) hbk).trans hc1
            obtain ⟨Z, m, cz, hz, hmh, s1, s2⟩ := run_fromto (H.out.1) lo hi hf1 (by omega)
            have hsn := hashedOf_snoc (xs := xs) hx
            have hle := hashedOf_le xs ((Pe.ranges xs).take j)
            rw [List.length_take] at hle
            have hle2 : (Pe.hashedOf xs ((Pe.ranges xs).take j)).length ≤ j * xs.length := Nat.le_trans hle (Nat.mul_le_mul_right _ (Nat.min_le_left _ _))
            have hle3 : j * xs.length ≤ 200 * 8192 := Nat.mul_le_mul (by omega) (by omega)
            have hzW : Rd wr w.heap.size Z m cz ((xs.take hi).drop lo) := hz.keep fun p hp => (HBB.out.c.trans (hb.mono HBB.out.c.size)).cell hp
            obtain ⟨Ap, np, cp, rfl, _⟩ := ho.rd
            have HR := Lib.hid (And.intro ho (And.intro hb (And.intro hsn (And.intro hzW (And.intro hle2 hle3)))))
            have hjk : (j : Int) < (k : Int) := by omega
            clear ho hb hsn hzW hz hx hle hle2 hle3 hc0 hc1 hBr hcap
            have hb4 : b < w4.heap.size := Nat.lt_of_lt_of_le hbk HBB.out.a.size
            go_upto_region 13 with fail
            go_region_held3 (fun w' => w'.cell? ⟨b, o + j * 2, none⟩ = some (.int .i64 (lo : Int)) ∧ w'.cell? ⟨b, o + j * 2 + 1, none⟩ = some (.int .i64 (hi : Int))) (go_keep)
              (first | ((refine step_app (by rfl) (.tmp 81) (.tmp 93) (by rfl) w4.heap.size wr.heap.size _ (Pe.hashedOf xs ((Pe.ranges xs).take j)) (by rfl) (by exact HR.out.1.drewN 1) (by have := HR.out.2.1.size; simp; omega) w.heap.size Z m cz ((xs.take hi).drop lo) (by rfl) (by exact (HR.out.2.2.2.1.drew).rds) (by have h1 := HR.out.2.2.2.2.1; have h2 := HR.out.2.2.2.2.2; omega) ?_); intro v6 w6 ho6 hg6 hat6 hb6; have z1 := (hb6.cell (p := ⟨b, o + j * 2, none⟩) hb4).trans c0; have z2 := (hb6.cell (p := ⟨b, o + j * 2 + 1, none⟩) hb4).trans c1; obtain ⟨A6, n6, c6, rfl, _⟩ := ho6.rd; have H6 := Lib.hid (And.intro ho6 hb6); clear ho6 hg6 hat6 hb6) | fail)
            go_wp2_with fail
            go_roundw
            case rel => exact ⟨j + 1, by omega, by go_num, by rw [HR.out.2.2.1]; exact H6.out.1, HR.out.2.1.drew.trans H6.out.2⟩
            case measure => simp [intOf]; omega
          · have hjk : ¬ ((j : Int) < (k : Int)) := by omega
            obtain rfl : j = k := by omega
            have HF15 := Lib.hid (And.intro ho hb)
            clear ho hb
            obtain ⟨wm, rfl⟩ : ∃ V, V = wr := ⟨_, rfl⟩
            have HBC : B3 w w1 w2 wm := ⟨HBB.out.a.trans (HF15.out.2.mono HBB.out.a.size), HBB.out.b.trans (HF15.out.2.mono HBB.out.b.size), HBB.out.c.trans (HF15.out.2.mono HBB.out.c.size)⟩
            have HBC := Lib.hid HBC
            go_wp2_with fail
            go_loopw [16, 18] (fun p i wr => ∃ j : Nat, j ≤ k' ∧ i = .int .i64 (j : Int) ∧ OwnB wr wm.heap.size wr.heap.size p (Pe.hashedOf ys ((Pe.ranges ys).take j)) ∧ Below wm.heap.size wm wr) (fun _ i _ => k' - (intOf i).toNat)
            case atStart => exact ⟨0, Nat.zero_le _, rfl, OwnB.nil_, Below.refl _ _⟩
            case round =>
              obtain ⟨j, hj, rfl, ho, hb⟩ := hrel
              by_cases hlt : j < k'
              · obtain ⟨b, o, x, hR, hbk, hx, hc0, hc1⟩ := (HP.out.2.1).get hlt
                subst hR
                obtain ⟨lo, hi⟩ := x
                obtain ⟨hf1, hf2⟩ := ranges_fit HP.out.2.2.2 (lo, hi) (List.mem_of_getElem? hx)
                dsimp only at hf1 hf2 hc0 hc1
                have hcap := (H.out.2).cap
                have hlen := (H.out.2).len
                have hBr : Below w2.heap.size w2 wr := HBC.out.b.trans (hb.mono HBC.out.b.size)
                have c0 := (hBr.cell (p := ⟨b, o + j * 2, none⟩) hbk).trans hc0
                have c1 := (hBr.cell (p := ⟨b, o + j * 2 + 1, none⟩) hbk).trans hc1
                obtain ⟨Z, m, cz, hz, hmh, s1, s2⟩ := run_fromto (H.out.2) lo hi hf1 (by omega)
                have hsn := hashedOf_snoc (xs := ys) hx
                have hle := hashedOf_le ys ((Pe.ranges ys).take j)
                rw [List.length_take] at hle
                have hle2 : (Pe.hashedOf ys ((Pe.ranges ys).take j)).length ≤ j * ys.length := Nat.le_trans hle (Nat.mul_le_mul_right _ (Nat.min_le_left _ _))
                have hle3 : j * ys.length ≤ 200 * 8192 := Nat.mul_le_mul (by omega) (by omega)
                have hzW : Rd wr w.heap.size Z m cz ((ys.take hi).drop lo) := hz.keep fun p hp => (HBC.out.c.trans (hb.mono HBC.out.c.size)).cell hp
                obtain ⟨Ap, np, cp, rfl, _⟩ := ho.rd
                have HR := Lib.hid (And.intro ho (And.intro hb (And.intro hsn (And.intro hzW (And.intro hle2 hle3)))))
                have hjk : (j : Int) < (k' : Int) := by omega
                clear ho hb hsn hzW hz hx hle hle2 hle3 hc0 hc1 hBr hcap
                have hb4 : b < wm.heap.size := Nat.lt_of_lt_of_le hbk HBC.out.b.size
                go_upto_region 17 with fail
                go_region_held3 (fun w' => w'.cell? ⟨b, o + j * 2, none⟩ = some (.int .i64 (lo : Int)) ∧ w'.cell? ⟨b, o + j * 2 + 1, none⟩ = some (.int .i64 (hi : Int))) (go_keep)
                  (first | ((refine step_app (by rfl) (.tmp 101) (.tmp 113) (by rfl) wm.heap.size wr.heap.size _ (Pe.hashedOf ys ((Pe.ranges ys).take j)) (by rfl) (by exact HR.out.1.drewN 1) (by have := HR.out.2.1.size; simp; omega) w.heap.size Z m cz ((ys.take hi).drop lo) (by rfl) (by exact (HR.out.2.2.2.1.drew).rds) (by have h1 := HR.out.2.2.2.2.1; have h2 := HR.out.2.2.2.2.2; omega) ?_); intro v6 w6 ho6 hg6 hat6 hb6; have z1 := (hb6.cell (p := ⟨b, o + j * 2, none⟩) hb4).trans c0; have z2 := (hb6.cell (p := ⟨b, o + j * 2 + 1, none⟩) hb4).trans c1; obtain ⟨A6, n6, c6, rfl, _⟩ := ho6.rd; have H6 := Lib.hid (And.intro ho6 hb6); clear ho6 hg6 hat6 hb6) | fail)
                go_wp2_with fail
                go_roundw
                case rel => exact ⟨j + 1, by omega, by go_num, by rw [HR.out.2.2.1]; exact H6.out.1, HR.out.2.1.drew.trans H6.out.2⟩
                case measure => simp [intOf]; omega
              · have hjk : ¬ ((j : Int) < (k' : Int)) := by omega
                obtain rfl : j = k' := by omega
                have HF16 := Lib.hid (And.intro ho hb)
                clear ho hb
                obtain ⟨wn, rfl⟩ : ∃ V, V = wr := ⟨_, rfl⟩
                have hbn := HBC.out.c.trans (HF16.out.2.mono HBC.out.c.size)
                have hsm4 := HF15.out.2.size
                have oP := (HF15.out.1.below HF16.out.2 (Nat.le_refl _)).rd
                have oQ := HF16.out.1.rd
                rw [List.take_of_length_le (Nat.le_of_eq HP.out.1.len)] at oP
                rw [List.take_of_length_le (Nat.le_of_eq HP.out.2.1.len)] at oQ
                obtain ⟨Ap, np, cp, rfl, rP⟩ := oP
                obtain ⟨Aq, nq, cq, rfl, rQ⟩ := oQ
                have hEq := eqbytes_any Ap Aq np cp nq cq _ _ _ _ wn rP rQ
                have h4n : Below w4.heap.size w4 wn := HF15.out.2.trans (HF16.out.2.mono hsm4)
                have HN := Lib.hid (And.intro hEq (And.intro hbn (And.intro ((DS.out.1.later DT.out.1.below).later h4n) (DT.out.1.later h4n))))
                clear hEq hbn h4n rP rQ hsm4
                go_wp2_with fail
                refine HN.out.1.mono ?_
                rintro e w9 ⟨rfl, rfl⟩
                by_cases hE : Pe.hashedOf xs (Pe.ranges xs) = Pe.hashedOf ys (Pe.ranges ys)
                · have hST : T = S := by
                    rw [← ET.out.2.1, ← ES.out.2.1]
                    unfold dig
                    rw [HP.out.2.2.1, HP.out.2.2.2]
                    unfold Pe.hashed
                    rw [hE]
                  subst hST
                  rw [(eqB_iff _ _).2 hE]
                  have heq : ∀ W, (Op.equalIn 10000 31 (.agg (T.map u8v).toArray) (.agg (T.map u8v).toArray)).run Tryd.prog W = .ok true W := fun W => by rw [eq_b32 T T ET.out.2.2.2.1 ET.out.2.2.2.1]; simp
                  clear hE
                  go_wp2_with (first | ((with_reducible refine at_load_t 31 ?_); refine wpList_load_b32_g _ rfl db T ET.out.2.2.2.1 rfl HN.out.2.2.1.sum (by rfl) ?_) | ((with_reducible refine at_load_t 31 ?_); refine wpList_load_b32_g _ rfl dc T ET.out.2.2.2.1 rfl HN.out.2.2.2.sum (by rfl) ?_) | fail)
                  refine (meWorks_any w9).mono ?_
                  rintro e wz ⟨rfl, hbwz⟩
                  have Hwz := Lib.hid (HN.out.2.1.trans (hbwz.mono HN.out.2.1.size))
                  clear hbwz
                  go_wp2_with fail
                  go_ret
                  exact ⟨rfl, Hwz.out⟩
                · have hE' : eqB (Pe.hashedOf xs (Pe.ranges xs)) (Pe.hashedOf ys (Pe.ranges ys)) = false := Bool.eq_false_iff.2 fun h => hE ((eqB_iff _ _).1 h)
                  rw [hE']
                  clear hE hE'
                  go_wp2_with fail
                  refine (meWorks_any w9).mono ?_
                  rintro e wz ⟨rfl, hbwz⟩
                  have Hwz := Lib.hid (HN.out.2.1.trans (hbwz.mono HN.out.2.1.size))
                  clear hbwz
                  go_wp2_with fail
                  go_ret
                  exact ⟨rfl, Hwz.out⟩
      · have g2 : ((er' : Int) != 0) = true := by simp; omega
        have g2' : ((er' : Int) == 0) = false := by simp; omega
        have hz2 := eq_z32 T (dig_zero ET.out.2.1 (by rw [H2.out.2.1]; exact h2))
        subst h1
        have HG := Lib.hid h2
        clear h2
        go_wp2_with (first | ((with_reducible refine at_load_t 31 ?_); refine wpList_load_b32_g _ rfl dc T ET.out.2.2.2.1 rfl DT.out.1.sum (by rfl) ?_) | fail)
        refine (meWorks_any w4).mono ?_
        rintro e wz ⟨rfl, hbwz⟩
        have Hwz := Lib.hid (H4.out.trans (hbwz.mono H4.out.size))
        clear hbwz
        go_wp2_with fail
        go_ret
        exact ⟨rfl, Hwz.out⟩
    · have g1 : ((er : Int) != 0) = true := by simp; omega
      have g1' : ((er : Int) == 0) = false := by simp; omega
      have hz1 := eq_z32 S (dig_zero ES.out.2.1 (by rw [H1.out.2.1]; exact h1))
      have DS4 := DS.out.1.later DT.out.1.below
      have H5 := Lib.hid (And.intro DS4 h1)
      clear DS4 h1
      by_cases h2 : er' = 0
      · subst h2
        go_wp2_with (first | ((with_reducible refine at_load_t 31 ?_); refine wpList_load_b32_g _ rfl db S ES.out.2.2.2.1 rfl H5.out.1.sum (by rfl) ?_) | fail)
        refine (meWorks_any w4).mono ?_
        rintro e wz ⟨rfl, hbwz⟩
        have Hwz := Lib.hid (H4.out.trans (hbwz.mono H4.out.size))
        clear hbwz
        go_wp2_with fail
        go_ret
        exact ⟨rfl, Hwz.out⟩
      · have g2 : ((er' : Int) != 0) = true := by simp; omega
        have g2' : ((er' : Int) == 0) = false := by simp; omega
        have hz2 := eq_z32 T (dig_zero ET.out.2.1 (by rw [H2.out.2.1]; exact h2))
        have HG := Lib.hid h2
        clear h2
        go_wp2_with (first | ((with_reducible refine at_load_t 31 ?_); refine wpList_load_b32_g _ rfl db S ES.out.2.2.2.1 rfl H5.out.1.sum (by rfl) ?_) | ((with_reducible refine at_load_t 31 ?_); refine wpList_load_b32_g _ rfl dc T ET.out.2.2.2.1 rfl DT.out.1.sum (by rfl) ?_) | fail)
        refine (meWorks_any w4).mono ?_
        rintro e wz ⟨rfl, hbwz⟩
        have Hwz := Lib.hid (H4.out.trans (hbwz.mono H4.out.size))
        clear hbwz
        go_wp2_with fail
        go_ret
        exact ⟨rfl, Hwz.out⟩
  · have HL := Lib.hid (And.intro hlx hly)
    clear hlx hly
    go_enter Tryd.func5, Tryd.ntmps5
    by_cases hs1 : n ≤ 8192
    · have q1 : ¬ ((8192 : Int) < (n : Int)) := by omega
      have q2 : ((8192 : Int) < (n' : Int)) := by omega
      go_wp2_with fail
      refine (meWorks_any w).mono ?_
      rintro e wz ⟨rfl, hbwz⟩
      have Hwz := Lib.hid ((Below.refl w.heap.size w).trans (hbwz.mono (Below.refl w.heap.size w).size))
      clear hbwz
      go_wp2_with fail
      go_ret
      exact ⟨rfl, Hwz.out⟩
    · have q1 : ((8192 : Int) < (n : Int)) := by omega
      go_wp2_with fail
      refine (meWorks_any w).mono ?_
      rintro e wz ⟨rfl, hbwz⟩
      have Hwz := Lib.hid ((Below.refl w.heap.size w).trans (hbwz.mono (Below.refl w.heap.size w).size))
      clear hbwz
      go_wp2_with fail
      go_ret
      exact ⟨rfl, Hwz.out⟩
end Go.Proofs.YtedlpcioegbmfaaDoor
