/- The walk of the law MeasureDigests. -/
import Derived.Test.YtmpladnglfiejaaGreatDoorMeWorks
import Derived.Test.YtmpladnglfiejaaGreatDoorJi
import Derived.Test.YtmpladnglfiejaaGreatDoorJb
namespace Go.Proofs.YtmpladnglfiejaaGreatDoor
open Go.RowKit
set_option maxRecDepth 100000
set_option linter.unusedVariables false
set_option linter.unusedSimpArgs false
set_option maxHeartbeats 8000000 in
theorem measureDigests_walk (w : World) (A : Option Addr) (n c : Nat) (xs : List UInt8) (h : Rd w w.heap.size A n c xs) :
    Calls Tryz.prog 3 #[.slice A n c] w fun e w' => e = .returned (.bool true) ∧ Below w.heap.size w w' := by
  have hl := h.len
  have H := Lib.hid (And.intro h hl)
  clear h
  by_cases hn : n ≤ 16384
  · have hn' : ¬ (16384 : Int) < n := by omega
    go_enter Tryz.func3, Tryz.ntmps3
    go_wp2_with fail
    refine (roomy_any A n c xs w H.out.1 (by omega)).mono ?_
    rintro e w1 ⟨v1, rfl, hR1, hb1⟩
    obtain ⟨A1, n1, c1, rfl, hr1⟩ := hR1.own.rd
    obtain rfl : n1 = n := by rw [← hr1.len, hl]
    have H1 := Lib.hid (And.intro hR1 (And.intro hr1 hb1))
    clear hR1 hr1 hb1 hl
    go_wp2_with fail
    refine (digest_any A1 n1 c1 xs w1 H1.out.2.1 (by omega)).mono ?_
    rintro e w2a ⟨hbw2a, S, C, e1, rfl, hSS, herS, hlS, honeC, hzC, hokC⟩
    have ES := Lib.hid (And.intro hbw2a (And.intro hSS (And.intro herS (And.intro hlS (And.intro honeC (And.intro hzC hokC))))))
    clear hbw2a hSS herS hlS honeC hzC hokC
    go_wp2_with (first
      | ((with_reducible refine at_store_t 25 ?_); refine wpList_store_b32 rfl _ _ rfl w2a.heap.size z32 S rfl ES.out.2.2.2.1 rfl rfl (dW_b w2a) ?_; intro w2b hBw2b hgw2b)
      | ((with_reducible refine at_store_img ?_); refine wpList_store_img rfl _ _ rfl (w2a.heap.size + 1) IV.zero C rfl rfl ((dW_i w2a).grown hgw2b (fun e => by injection e with e; omega)) ES.out.2.2.2.2.1 ?_; intro w2 hBw2 hgw2)
      | fail)
    have Dw2 := digAt (xs := xs) ES.out.1 hgw2b hBw2b hgw2 hBw2
    have Iw2 : e1 = 0 → ImgOwn xs C w1.heap.size w2 := fun h => (ES.out.2.2.2.2.2.2 h).later (digBelow hgw2b hgw2)
    obtain ⟨db, hdb⟩ : ∃ g, w2a.heap.size = g := ⟨_, rfl⟩
    rw [hdb] at Dw2 ⊢
    have DS := Lib.hid (And.intro Dw2 Iw2)
    clear hBw2b hgw2b hBw2 hgw2 Dw2 hdb Iw2
    have H2 := Lib.hid (H1.out.2.2.trans (DS.out.1.below.mono H1.out.2.2.size))
    refine (rDigest_any A n1 c xs w2 (H.out.1.up H2.out) hn).mono ?_
    rintro e w3a ⟨hbw3a, T, D, e2, rfl, hST, herT, hlT, honeD, hzD, hokD⟩
    obtain rfl : S = T := ES.out.2.1.symm.trans hST
    obtain rfl : e1 = e2 := ES.out.2.2.1.symm.trans herT
    have ET := Lib.hid (And.intro hbw3a (And.intro honeD (And.intro hzD hokD)))
    clear hbw3a hST herT hlT honeD hzD hokD
    go_wp2_with (first
      | ((with_reducible refine at_store_t 25 ?_); refine wpList_store_b32 rfl _ _ rfl w3a.heap.size z32 S rfl ES.out.2.2.2.1 rfl rfl (dW_b w3a) ?_; intro w3b hBw3b hgw3b)
      | ((with_reducible refine at_store_img ?_); refine wpList_store_img rfl _ _ rfl (w3a.heap.size + 1) IV.zero D rfl rfl ((dW_i w3a).grown hgw3b (fun e => by injection e with e; omega)) ET.out.2.1 ?_; intro w3 hBw3 hgw3)
      | fail)
    have Dw3 := digAt (xs := xs) ET.out.1 hgw3b hBw3b hgw3 hBw3
    have Iw3 : e1 = 0 → ImgRd xs D w2.heap.size w3 := fun h => (ET.out.2.2.2 h).later (digBelow hgw3b hgw3)
    obtain ⟨dc, hdc⟩ : ∃ g, w3a.heap.size = g := ⟨_, rfl⟩
    rw [hdc] at Dw3 ⊢
    have DT := Lib.hid (And.intro Dw3 Iw3)
    clear hBw3b hgw3b hBw3 hgw3 Dw3 hdc Iw3
    have H3 := Lib.hid (H2.out.trans (DT.out.1.below.mono H2.out.size))
    have hb13 : Below w1.heap.size w1 w3 := DS.out.1.below.trans (DT.out.1.below.mono DS.out.1.below.size)
    refine (ranges_out A1 n1 c1 xs w3 (H1.out.2.1.up hb13) (by omega)).mono ?_
    rintro e w4 ⟨hb4, R, k, rc, er, rfl, her, hk0, hP⟩
    obtain rfl : e1 = er := ES.out.2.2.1.symm.trans her
    have H4 := Lib.hid (And.intro hb4 (And.intro hk0 (And.intro hP (And.intro hb13 (H3.out.trans (hb4.mono H3.out.size))))))
    clear hb4 her hk0 hP hb13
    go_wp2_with fail
    refine (rRanges_any A n1 c xs w4 (H.out.1.up H4.out.2.2.2.2) hn).mono ?_
    rintro e w5 ⟨hb5, R', k', rc', er', rfl, her', hk0', hP', _⟩
    obtain rfl : e1 = er' := ES.out.2.2.1.symm.trans her'
    have hkk : k = k' := by
      by_cases he : e1 = 0
      · exact (H4.out.2.2.1 he).len.symm.trans (hP' he).len
      · rw [H4.out.2.1 he, hk0' he]
    obtain rfl : k = k' := hkk
    have hs3 := H3.out.size
    have hs4 := H4.out.1.size
    have hb25 : Below w2.heap.size w2 w5 := DT.out.1.below.trans ((H4.out.1.trans (hb5.mono hs4)).mono DT.out.1.below.size)
    have hb35 : Below w3.heap.size w3 w5 := H4.out.1.trans (hb5.mono hs4)
    have hsame : Calls Tryz.prog 11 #[C.val, D.val] w5 fun e w' => e = .returned (.bool true) ∧ Below w5.heap.size w5 w' := by
      by_cases he : e1 = 0
      · exact same_rd ((DS.out.2 he).later hb25) ((DT.out.2 he).later hb35) (ES.out.2.2.1.trans he) rfl
      · rw [ES.out.2.2.2.2.2.1 he, ET.out.2.2.1 he]
        exact same_any false 0 0 0 0 0 0 0 0 0 0 0 none none none none [] [] [] w5 (by omega) (by omega) RdS.none_ RdS.none_ ⟨rfl, Nat.le_refl _, by omega, Reads.none_, fun v xs h => by cases h⟩ ⟨rfl, Nat.le_refl _, by omega, Reads.none_, fun v xs h => by cases h⟩ rfl
    have hr5 : e1 = 0 → RdP w5 w5.heap.size R k rc (Pe.ranges xs) := fun he => ((H4.out.2.2.1 he).below hb5).more hb5.size
    have hb15 : Below w1.heap.size w1 w5 := H4.out.2.2.2.1.trans (hb35.mono H4.out.2.2.2.1.size)
    have H5 := Lib.hid (And.intro hsame (And.intro (DS.out.1.later hb25) (And.intro (DT.out.1.later hb35) (And.intro hr5 (And.intro hP' (And.intro hk0' (And.intro hb15 (H3.out.trans (hb35.mono hs3)))))))))
    clear hb5 her' hk0' hP' hb25 hb35 hsame hr5 hb15 hs3 hs4
    have heq : ∀ W, (Op.equalIn 10000 25 (.agg (S.map u8v).toArray) (.agg (S.map u8v).toArray)).run Tryz.prog W = .ok true W := fun W => by rw [eq_b32 S S ES.out.2.2.2.1 ES.out.2.2.2.1]; simp
    go_wp2_with (first
      | ((with_reducible refine at_load_t 25 ?_); refine wpList_load_b32_g _ rfl db S ES.out.2.2.2.1 rfl H5.out.2.1.sum (by rfl) ?_)
      | ((with_reducible refine at_load_t 25 ?_); refine wpList_load_b32_g _ rfl dc S ES.out.2.2.2.1 rfl H5.out.2.2.1.sum (by rfl) ?_)
      | ((with_reducible refine at_load_img ?_); refine wpList_load_img_g _ rfl (db + 1) C rfl H5.out.2.1.img (by rfl) ?_)
      | ((with_reducible refine at_load_img ?_); refine wpList_load_img_g _ rfl (dc + 1) D rfl H5.out.2.2.1.img (by rfl) ?_)
      | fail)
    refine H5.out.1.mono ?_
    rintro e w6 ⟨rfl, hb6⟩
    have hb16 := H5.out.2.2.2.2.2.2.1.trans (hb6.mono H5.out.2.2.2.2.2.2.1.size)
    have hbw6 := H5.out.2.2.2.2.2.2.2.trans (hb6.mono H5.out.2.2.2.2.2.2.2.size)
    have HK := Lib.hid (And.intro (H1.out.1.below hb16 (Nat.le_refl _)) (And.intro ((H.out.1.below hbw6).more hbw6.size) (And.intro hb6 hbw6)))
    clear hb6 hb16 hbw6
    go_wp2_with fail
    refine (kept_any _ _ _ _ _ _ _ _ _ HK.out.1 HK.out.2.1 (by omega)).mono ?_
    rintro e w7 ⟨rfl, rfl⟩
    have hkB : k ≤ 200 := by
      by_cases he : e1 = 0
      · have h1 := (H5.out.2.2.2.1 he).len
        have h2 := Pe.ranges_len xs
        have h3 := (meB (ES.out.2.2.1.trans he) (by rw [H.out.2]; omega)).many
        split at h2 <;> omega
      · have := H5.out.2.2.2.2.2.1 he
        omega
    clear heq
    go_wp2_with fail
    go_loopw [14] (fun i wr => ∃ j : Nat, j ≤ k ∧ i = .int .i64 (j : Int) ∧ Below w7.heap.size w7 wr) (fun i _ => k - (intOf i).toNat)
    case atStart => exact ⟨0, Nat.zero_le _, rfl, Below.refl _ _⟩
    case round =>
      obtain ⟨j, hj, rfl, hb⟩ := hrel
      by_cases hlt : j < k
      · have he : e1 = 0 := by
          rcases Nat.eq_zero_or_pos e1 with h | h
          · exact h
          · have := H5.out.2.2.2.2.2.1 (by omega)
            omega
        obtain ⟨b, o, x, hR, hbk, hx, hc0, hc1⟩ := (H5.out.2.2.2.1 he).get hlt
        obtain ⟨b', o', x', hR', hbk', hx', hc0', hc1'⟩ := (H5.out.2.2.2.2.1 he).get hlt
        obtain rfl : x = x' := by rw [hx] at hx'; injection hx'
        subst hR hR'
        have hb5 : Below w5.heap.size w5 wr := HK.out.2.2.1.trans (hb.mono HK.out.2.2.1.size)
        have c0 := (hb5.cell (p := ⟨b, o + j * 2, none⟩) hbk).trans hc0
        have c1 := (hb5.cell (p := ⟨b, o + j * 2 + 1, none⟩) hbk).trans hc1
        have d0 := (hb5.cell (p := ⟨b', o' + j * 2, none⟩) hbk').trans hc0'
        have d1 := (hb5.cell (p := ⟨b', o' + j * 2 + 1, none⟩) hbk').trans hc1'
        have hjk : (j : Int) < (k : Int) := by omega
        obtain ⟨lo, hi⟩ := x
        have lp0 : ∀ n, (loadVar 39 ⟨b, o + j * 2, none⟩).run Tryz.prog (wr.drewN n) = .ok (.agg #[.int .i64 (lo : Int), .int .i64 (hi : Int)]) (wr.drewN n) := fun n => load_pair (x := (lo, hi)) (by simpa using c0) (by simpa using c1)
        have lp1 : ∀ n, (loadVar 39 ⟨b', o' + j * 2, none⟩).run Tryz.prog (wr.drewN n) = .ok (.agg #[.int .i64 (lo : Int), .int .i64 (hi : Int)]) (wr.drewN n) := fun n => load_pair (x := (lo, hi)) (by simpa using d0) (by simpa using d1)
        have hep : ∀ W, (Op.equalIn 10000 39 (.agg #[.int .i64 (lo : Int), .int .i64 (hi : Int)]) (.agg #[.int .i64 (lo : Int), .int .i64 (hi : Int)])).run Tryz.prog W = .ok true W := fun W => by rw [eq_pair]; simp
        clear hc0 hc1 hc0' hc1' hx hbk hbk' hb5 c0 c1 d0 d1
        have HR := Lib.hid hb
        clear hb
        go_upto_region 13 with fail
        refine wp_region_quiet_lit (by kernel_rfl) (by kernel_rfl) ?_
        repeat (first
          | go_big_quiet_skip
          | (go_big_quiet_want; (refine quiet_load_t 39 _ (by rfl) _ _ (by rfl) (by rintro _ ⟨n, rfl⟩; first | exact lp0 n | exact lp1 n) ?_); simp only [Act.put, List.setIfInBounds_toArray, List.set_cons_zero, List.set_cons_succ]; go_big_quiet_on)
          | go_big_quiet_step (fail))
        refine wpQuiet_nil ?_
        intro _ hw'
        obtain ⟨nq, hw''⟩ := hw'
        subst hw''
        have hb56 : Below w7.heap.size w7 (wr.drewN nq) := below_drewN HR.out nq
        obtain ⟨w8, hw8⟩ : ∃ x, wr.drewN nq = x := ⟨_, rfl⟩
        rw [hw8] at hb56 ⊢
        have H8 := Lib.hid hb56
        clear lp0 lp1 hep hb56 hw8
        go_wp2_with fail
        go_roundw
        case rel => exact ⟨j + 1, by omega, by go_num, H8.out⟩
        case measure => simp [intOf]; omega
      · have hjk : ¬ ((j : Int) < (k : Int)) := by omega
        have HZ := Lib.hid (HK.out.2.2.2.trans (hb.mono HK.out.2.2.2.size))
        clear hb
        go_wp2_with fail
        refine (meWorks_any wr).mono ?_
        rintro e w9 ⟨rfl, hb9⟩
        have H9 := Lib.hid (HZ.out.trans (hb9.mono HZ.out.size))
        clear hb9
        go_wp2_with fail
        go_ret
        exact ⟨rfl, H9.out⟩
  · have hn' : (16384 : Int) < n := by omega
    clear hl
    go_enter Tryz.func3, Tryz.ntmps3
    go_wp2_with fail
    refine (meWorks_any w).mono ?_
    rintro e w1 ⟨rfl, hb1⟩
    have H1 := Lib.hid hb1
    clear hb1
    go_wp2_with fail
    go_ret
    exact ⟨rfl, H1.out⟩
end Go.Proofs.YtmpladnglfiejaaGreatDoor
