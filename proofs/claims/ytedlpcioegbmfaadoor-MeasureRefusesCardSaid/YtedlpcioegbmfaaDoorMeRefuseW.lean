/- The walk of the law MeasureRefuses. -/
import Derived.Test.YtedlpcioegbmfaaDoorMeWorks
import Derived.Test.YtedlpcioegbmfaaDoorMeRow
import Derived.Test.YtedlpcioegbmfaaDoorPeFr
namespace Go.Proofs.YtedlpcioegbmfaaDoor
open Go.RowKit
set_option maxRecDepth 100000
set_option linter.unusedVariables false
set_option linter.unusedSimpArgs false
/-- Same, at two images of noughts. -/
theorem same_none (w : World) : Calls Tryd.prog 13 #[IV.zero.val, .agg #[.bool false, .int .i64 0, .int .i64 0, .int .u32 0, .slice none 0 0, .int .u32 0, .int .u32 0, .slice none 0 0]] w fun e w' => e = .returned (.bool true) ∧ Below w.heap.size w w' :=
  same_any false 0 0 0 0 0 0 0 0 0 0 0 none none none none [] [] [] w (by omega) (by omega) RdS.none_ RdS.none_ ⟨rfl, Nat.le_refl _, by omega, Reads.none_, fun v xs h => by cases h⟩ ⟨rfl, Nat.le_refl _, by omega, Reads.none_, fun v xs h => by cases h⟩ rfl
set_option maxHeartbeats 8000000 in
theorem measureRefuses_walk (w : World) (V : ShV) (s : Pe.Shape) (h : ShRd w w.heap.size V s) (cut : Int) (hcw : (Lit.int .i64 cut).wf = true) (Am : Option Addr) (nm cm : Nat) (more : List UInt8) (hm : Rd w w.heap.size Am nm cm more) :
    Calls Tryd.prog 6 #[.agg V.cells, .int .i64 cut, .slice Am nm cm] w fun e w' => e = .returned (.bool true) ∧ Below w.heap.size w w' := by
  have HM := Lib.hid hm
  have hml := hm.len
  clear hm hcw
  have hB0 : Bs (w.alloc (.cells V.cells 26)) w.heap.size V := Blk.new _ _ _
  have hbw0 : Below w.heap.size w (w.alloc (.cells V.cells 26)) := below_one w _
  have hr0 : ShRd (w.alloc (.cells V.cells 26)) (w.alloc (.cells V.cells 26)).heap.size V s := (h.below hbw0).more (by simp)
  obtain ⟨W0, hW0⟩ : ∃ W0, w.alloc (.cells V.cells 26) = W0 := ⟨_, rfl⟩
  rw [hW0] at hB0 hbw0 hr0
  have H := Lib.hid (And.intro hB0 (And.intro hr0 (And.intro hbw0 hW0)))
  clear h hB0 hr0 hbw0 hW0
  go_enter Tryd.func6, Tryd.ntmps6
  go_upto_region 1 with fail
  rw [H.out.2.2.2]
  go_wp2_with (first
    | ((with_reducible refine at_load_sh ?_); refine wpList_load_sh rfl _ rfl w.heap.size V rfl H.out.1 ?_)
    | fail)
  refine (brought_any V s W0 H.out.2.1).mono ?_
  rintro e w1 ⟨V1, rfl, hr1, hb1⟩
  have ho := Pe.brought_ok s
  have h8 := Pe.brought_sigs s
  have hol := Pe.order_len s
  obtain ⟨S, hS⟩ : ∃ S, Pe.brought s = S := ⟨_, rfl⟩
  rw [hS] at hr1 ho h8 hol
  have hread := Pe.Shape.write_read ho
  obtain ⟨he0, hi0⟩ := Pe.read_err hread ho h8
  have hsm := S.write_small ho
  obtain ⟨b, hb⟩ : ∃ b, Pe.write S = b := ⟨_, rfl⟩
  rw [hb] at hread he0 hi0 hsm
  have HN := Lib.hid (And.intro ho (And.intro hread (And.intro he0 (And.intro hi0 (And.intro hb (And.intro hol (And.intro hS h8)))))))
  clear ho hread he0 hi0 hb hol hS h8
  have hbw1 := H.out.2.2.1.trans (hb1.mono H.out.2.2.1.size)
  have H1 := Lib.hid (And.intro hr1 (And.intro hbw1 hr1.one))
  clear hr1 hb1 hbw1
  go_upto_region 2 with (first
    | ((with_reducible refine at_store_sh ?_); refine wpList_store_sh rfl _ _ rfl w1.heap.size ShV.zero V1 rfl rfl (Blk.new w1 _ _) H1.out.2.2 ?_; intro w2 hB2 hg2)
    | fail)
  have hb12 : Below w1.heap.size w1 w2 := (below_one w1 _).grown hg2 (by simp) (fun k e => by injection e with e; omega)
  have hr2 : ShRd w2 w2.heap.size V1 S := (H1.out.1.below hb12).more hb12.size
  have hbw2 := H1.out.2.1.trans (hb12.mono H1.out.2.1.size)
  have hx2 : w1.heap.size < w2.heap.size := hB2.lt
  obtain ⟨xb, hxb⟩ : ∃ xb, w1.heap.size = xb := ⟨_, rfl⟩
  rw [hxb] at hB2 hx2 ⊢
  have H2 := Lib.hid (And.intro hB2 (And.intro hr2 hbw2))
  clear hB2 hg2 hb12 hr2 hbw2 H1 hxb
  go_wp2_with (first
    | ((with_reducible refine at_load_sh ?_); refine wpList_load_sh rfl _ rfl xb V1 rfl H2.out.1 ?_)
    | fail)
  refine (write_any V1 S w2 H2.out.2.1 HN.out.1 HN.out.2.2.2.2.2.1).mono ?_
  rw [HN.out.2.2.2.2.1]
  rintro e w3 ⟨A3, n3, c3, rfl, ho3, hb3⟩
  obtain ⟨_, _, _, e3, hr3⟩ := ho3.rd
  injection e3 with q1 q2 q3
  subst q1 q2 q3
  have hl3 := hr3.len
  have hbw3 := H2.out.2.2.trans (hb3.mono H2.out.2.2.size)
  have hB3 := H2.out.1.below hb3 hx2
  have hsh3 := (H2.out.2.1.below hb3).more hb3.size
  have hx3 : xb < w3.heap.size := hB3.lt
  have hn3 : n3 ≤ 16777216 := by omega
  have hw23 : w.heap.size ≤ w2.heap.size ∧ w2.heap.size ≤ w3.heap.size := ⟨H2.out.2.2.size, hb3.size⟩
  have H3 := Lib.hid (And.intro hr3 (And.intro hB3 (And.intro hsh3 (And.intro hbw3 (And.intro ho3 hw23)))))
  clear hr3 hb3 hbw3 hB3 hsh3 ho3 H2 hx2 hw23
  go_upto_region 3 with fail
  obtain ⟨A6, n6, c6, l6, e6, r6, hl6⟩ := H3.out.2.2.1.sigs
  have hn6 : S.sigs.length = n6 := by rw [← hl6, List.length_map]; exact r6.len
  have x6 : w3.cell? ⟨xb, 6, none⟩ = some (.slice A6 n6 c6) := (H3.out.2.1.cell 6).trans (by rw [← e6]; rfl)
  clear r6 hl6 e6
  by_cases h0 : n6 = 0
  · have h0' : ((n6 : Int) == 0) = true := by simp [h0]
    clear h0 hn6
    go_wp2_with fail
    refine (meWorks_any w3).mono ?_
    rintro e wz ⟨rfl, hbwz⟩
    have Hwz := Lib.hid (H3.out.2.2.2.1.trans (hbwz.mono H3.out.2.2.2.1.size))
    clear hbwz
    go_wp2_with fail
    go_ret
    exact ⟨rfl, Hwz.out⟩
  · have h0' : ((n6 : Int) == 0) = false := by simp; omega
    have hs : S.sigs ≠ [] := fun e => h0 (by rw [← hn6, e]; rfl)
    have HS := Lib.hid (And.intro hs hn6)
    clear hs hn6
    by_cases hnm : nm ≤ 100
    · have hnm' : ¬ ((100 : Int) < nm) := by omega
      have hmore := Pe.Shape.more_ HN.out.1 HS.out.1 more
      rw [HN.out.2.2.2.2.1] at hmore
      have HMO := Lib.hid (And.intro hmore hml)
      clear hmore
      go_upto_region 5 with fail
      by_cases hc0 : (0 : Int) ≤ cut
      · by_cases hc1 : cut < n3
        · obtain ⟨ct, rfl⟩ : ∃ c : Nat, cut = (c : Int) := ⟨cut.toNat, by omega⟩
          obtain ⟨Ac, cc, hrc, run1, run2⟩ := run_upto H3.out.1 ct ct rfl (by omega)
          have hcut := Pe.Shape.cut_ HN.out.1 HS.out.1 (k := ct) (by rw [HN.out.2.2.2.2.1]; omega)
          rw [HN.out.2.2.2.2.1] at hcut
          have hcn : ct ≤ 16777216 := by omega
          have HC := Lib.hid (And.intro hrc hcut)
          clear hrc hcut
          go_wp2_with fail
          refine (ranges_out Ac ct cc (b.take ct) w3 HC.out.1 hcn).mono ?_
          rintro e w4 ⟨hb4, R4, k4, rc4, er4, rfl, her4, hk4, _⟩
          obtain rfl : er4 = 9 := her4.symm.trans HC.out.2
          obtain rfl : k4 = 0 := hk4 (by decide)
          have H4 := Lib.hid hb4
          clear hb4 her4 hk4
          go_wp2_with fail
          refine (digest_any Ac ct cc (b.take ct) w4 (HC.out.1.up H4.out) hcn).mono ?_
          rintro e w6a ⟨hbw6a, T, D, e2, rfl, hST, herT, hlT, honeD, hzD, hokD⟩
          have ET := Lib.hid (And.intro hbw6a (And.intro hST (And.intro herT (And.intro hlT (And.intro honeD (And.intro hzD hokD))))))
          clear hbw6a hST herT hlT honeD hzD hokD
          go_upto_region 8 with (first
            | ((with_reducible refine at_store_t 31 ?_); refine wpList_store_b32 rfl _ _ rfl w6a.heap.size z32 T rfl ET.out.2.2.2.1 rfl rfl (dW_b w6a) ?_; intro w6b hBw6b hgw6b)
            | ((with_reducible refine at_store_img ?_); refine wpList_store_img rfl _ _ rfl (w6a.heap.size + 1) IV.zero D rfl rfl ((dW_i w6a).grown hgw6b (fun e => by injection e with e; omega)) ET.out.2.2.2.2.1 ?_; intro w6 hBw6 hgw6)
            | fail)
          have Dw6 := digAt (xs := (b.take ct)) ET.out.1 hgw6b hBw6b hgw6 hBw6
          have Iw6 : e2 = 0 → ImgOwn (b.take ct) D w4.heap.size w6 := fun h => (ET.out.2.2.2.2.2.2 h).later (digBelow hgw6b hgw6)
          obtain ⟨dc, hdc⟩ : ∃ g, w6a.heap.size = g := ⟨_, rfl⟩
          rw [hdc] at Dw6 ⊢
          have DT := Lib.hid (And.intro Dw6 Iw6)
          clear hBw6b hgw6b hBw6 hgw6 Dw6 hdc Iw6
          obtain rfl : e2 = 9 := ET.out.2.2.1.symm.trans HC.out.2
          obtain rfl : D = IV.zero := ET.out.2.2.2.2.2.1 (by decide)
          have hz2 := eq_z32 T (dig_zero ET.out.2.1 (by rw [HC.out.2]; decide))
          have hb36 : Below w3.heap.size w3 w6 := H4.out.trans (DT.out.1.below.mono H4.out.size)
          have H6 := Lib.hid hb36
          clear hb36
          go_wp2_with (first
            | ((with_reducible refine at_load_t 31 ?_); refine wpList_load_b32_g _ rfl dc T ET.out.2.2.2.1 rfl DT.out.1.sum (by rfl) ?_)
            | ((with_reducible refine at_load_img ?_); refine wpList_load_img_g _ rfl _ IV.zero rfl DT.out.1.img (by rfl) ?_)
            | fail)
          refine (same_none w6).mono ?_
          rintro e w9 ⟨rfl, hb9⟩
          have H9 := Lib.hid (H6.out.trans (hb9.mono H6.out.size))
          clear hb9
          go_upto_region 10 with fail
          have hoA : OwnB w9 w2.heap.size w3.heap.size (.slice A3 n3 c3) b := H3.out.2.2.2.2.1.below (H9.out) (Nat.le_refl _)
          have hbA : Below w.heap.size w w9 := H3.out.2.2.2.1.trans ((H9.out).mono H3.out.2.2.2.1.size)
          have hrm : Rd w9 w.heap.size Am nm cm more := HM.out.below hbA
          have hsA := (H9.out).size
          have hs23 := H3.out.2.2.2.2.2
          have HA := Lib.hid (And.intro hoA (And.intro hrm hbA))
          clear hoA hrm hbA
          go_upto_region 11 with (first
            | (at_builtin
               refine wpList_app rfl (.tmp 75) (.tmp 76) rfl w2.heap.size w3.heap.size _ b rfl HA.out.1 (by omega) w.heap.size Am nm cm more rfl HA.out.2.1.rds (by omega) ?_
               intro v7 w7 ho7 hg7 hat7 hb7
               have hb7' : Below w.heap.size w w7 := HA.out.2.2.trans (hb7.mono hs23.1)
               have H7 := Lib.hid (And.intro ho7 hb7')
               clear ho7 hg7 hat7 hb7 hb7')
            | fail)
          obtain ⟨A7, n7, c7, rfl, hr7⟩ := H7.out.1.rd
          have hl7 := hr7.len
          rw [List.length_append] at hl7
          go_wp2_with fail
          refine (ranges_out A7 n7 c7 (b ++ more) w7 hr7 (by omega)).mono ?_
          rintro e w8 ⟨hb8, R8, k8, rc8, er8, rfl, her8, _, _⟩
          have hb8' := H7.out.2.trans (hb8.mono H7.out.2.size)
          have H8 := Lib.hid hb8'
          clear hb8 hb8' hr7 hl7
          by_cases hmn : more = []
          · have hm0 : nm = 0 := by rw [← hml, hmn]; rfl
            have e0 : er8 = 0 := by rw [← her8, hmn, List.append_nil]; exact HN.out.2.2.1
            subst e0 hm0
            clear her8
            go_wp2_with fail
            refine (meWorks_any w8).mono ?_
            rintro e wz ⟨rfl, hbwz⟩
            have Hwz := Lib.hid (H8.out.trans (hbwz.mono H8.out.size))
            clear hbwz
            go_wp2_with fail
            go_ret
            exact ⟨rfl, Hwz.out⟩
          · have hm0 : ((nm : Int) == 0) = false := by
              have : nm ≠ 0 := fun h => hmn (List.length_eq_zero_iff.1 (hml.trans h))
              simp; omega
            have e1 : ((er8 : Int) == 0) = false := by
              have := HMO.out.1 hmn
              simp; omega
            clear her8
            go_wp2_with fail
            refine (meWorks_any w8).mono ?_
            rintro e wz ⟨rfl, hbwz⟩
            have Hwz := Lib.hid (H8.out.trans (hbwz.mono H8.out.size))
            clear hbwz
            go_wp2_with fail
            go_ret
            exact ⟨rfl, Hwz.out⟩
        · go_upto_region 10 with fail
          have hoA : OwnB w3 w2.heap.size w3.heap.size (.slice A3 n3 c3) b := H3.out.2.2.2.2.1.below ((Below.refl w3.heap.size w3)) (Nat.le_refl _)
          have hbA : Below w.heap.size w w3 := H3.out.2.2.2.1.trans (((Below.refl w3.heap.size w3)).mono H3.out.2.2.2.1.size)
          have hrm : Rd w3 w.heap.size Am nm cm more := HM.out.below hbA
          have hsA := ((Below.refl w3.heap.size w3)).size
          have hs23 := H3.out.2.2.2.2.2
          have HA := Lib.hid (And.intro hoA (And.intro hrm hbA))
          clear hoA hrm hbA
          go_upto_region 11 with (first
            | (at_builtin
               refine wpList_app rfl (.tmp 75) (.tmp 76) rfl w2.heap.size w3.heap.size _ b rfl HA.out.1 (by omega) w.heap.size Am nm cm more rfl HA.out.2.1.rds (by omega) ?_
               intro v7 w7 ho7 hg7 hat7 hb7
               have hb7' : Below w.heap.size w w7 := HA.out.2.2.trans (hb7.mono hs23.1)
               have H7 := Lib.hid (And.intro ho7 hb7')
               clear ho7 hg7 hat7 hb7 hb7')
            | fail)
          obtain ⟨A7, n7, c7, rfl, hr7⟩ := H7.out.1.rd
          have hl7 := hr7.len
          rw [List.length_append] at hl7
          go_wp2_with fail
          refine (ranges_out A7 n7 c7 (b ++ more) w7 hr7 (by omega)).mono ?_
          rintro e w8 ⟨hb8, R8, k8, rc8, er8, rfl, her8, _, _⟩
          have hb8' := H7.out.2.trans (hb8.mono H7.out.2.size)
          have H8 := Lib.hid hb8'
          clear hb8 hb8' hr7 hl7
          by_cases hmn : more = []
          · have hm0 : nm = 0 := by rw [← hml, hmn]; rfl
            have e0 : er8 = 0 := by rw [← her8, hmn, List.append_nil]; exact HN.out.2.2.1
            subst e0 hm0
            clear her8
            go_wp2_with fail
            refine (meWorks_any w8).mono ?_
            rintro e wz ⟨rfl, hbwz⟩
            have Hwz := Lib.hid (H8.out.trans (hbwz.mono H8.out.size))
            clear hbwz
            go_wp2_with fail
            go_ret
            exact ⟨rfl, Hwz.out⟩
          · have hm0 : ((nm : Int) == 0) = false := by
              have : nm ≠ 0 := fun h => hmn (List.length_eq_zero_iff.1 (hml.trans h))
              simp; omega
            have e1 : ((er8 : Int) == 0) = false := by
              have := HMO.out.1 hmn
              simp; omega
            clear her8
            go_wp2_with fail
            refine (meWorks_any w8).mono ?_
            rintro e wz ⟨rfl, hbwz⟩
            have Hwz := Lib.hid (H8.out.trans (hbwz.mono H8.out.size))
            clear hbwz
            go_wp2_with fail
            go_ret
            exact ⟨rfl, Hwz.out⟩
      · go_upto_region 10 with fail
        have hoA : OwnB w3 w2.heap.size w3.heap.size (.slice A3 n3 c3) b := H3.out.2.2.2.2.1.below ((Below.refl w3.heap.size w3)) (Nat.le_refl _)
        have hbA : Below w.heap.size w w3 := H3.out.2.2.2.1.trans (((Below.refl w3.heap.size w3)).mono H3.out.2.2.2.1.size)
        have hrm : Rd w3 w.heap.size Am nm cm more := HM.out.below hbA
        have hsA := ((Below.refl w3.heap.size w3)).size
        have hs23 := H3.out.2.2.2.2.2
        have HA := Lib.hid (And.intro hoA (And.intro hrm hbA))
        clear hoA hrm hbA
        go_upto_region 11 with (first
          | (at_builtin
             refine wpList_app rfl (.tmp 75) (.tmp 76) rfl w2.heap.size w3.heap.size _ b rfl HA.out.1 (by omega) w.heap.size Am nm cm more rfl HA.out.2.1.rds (by omega) ?_
             intro v7 w7 ho7 hg7 hat7 hb7
             have hb7' : Below w.heap.size w w7 := HA.out.2.2.trans (hb7.mono hs23.1)
             have H7 := Lib.hid (And.intro ho7 hb7')
             clear ho7 hg7 hat7 hb7 hb7')
          | fail)
        obtain ⟨A7, n7, c7, rfl, hr7⟩ := H7.out.1.rd
        have hl7 := hr7.len
        rw [List.length_append] at hl7
        go_wp2_with fail
        refine (ranges_out A7 n7 c7 (b ++ more) w7 hr7 (by omega)).mono ?_
        rintro e w8 ⟨hb8, R8, k8, rc8, er8, rfl, her8, _, _⟩
        have hb8' := H7.out.2.trans (hb8.mono H7.out.2.size)
        have H8 := Lib.hid hb8'
        clear hb8 hb8' hr7 hl7
        by_cases hmn : more = []
        · have hm0 : nm = 0 := by rw [← hml, hmn]; rfl
          have e0 : er8 = 0 := by rw [← her8, hmn, List.append_nil]; exact HN.out.2.2.1
          subst e0 hm0
          clear her8
          go_wp2_with fail
          refine (meWorks_any w8).mono ?_
          rintro e wz ⟨rfl, hbwz⟩
          have Hwz := Lib.hid (H8.out.trans (hbwz.mono H8.out.size))
          clear hbwz
          go_wp2_with fail
          go_ret
          exact ⟨rfl, Hwz.out⟩
        · have hm0 : ((nm : Int) == 0) = false := by
            have : nm ≠ 0 := fun h => hmn (List.length_eq_zero_iff.1 (hml.trans h))
            simp; omega
          have e1 : ((er8 : Int) == 0) = false := by
            have := HMO.out.1 hmn
            simp; omega
          clear her8
          go_wp2_with fail
          refine (meWorks_any w8).mono ?_
          rintro e wz ⟨rfl, hbwz⟩
          have Hwz := Lib.hid (H8.out.trans (hbwz.mono H8.out.size))
          clear hbwz
          go_wp2_with fail
          go_ret
          exact ⟨rfl, Hwz.out⟩
    · have hnm' : (100 : Int) < nm := by omega
      go_wp2_with fail
      refine (meWorks_any w3).mono ?_
      rintro e wz ⟨rfl, hbwz⟩
      have Hwz := Lib.hid (H3.out.2.2.2.1.trans (hbwz.mono H3.out.2.2.2.1.size))
      clear hbwz
      go_wp2_with fail
      go_ret
      exact ⟨rfl, Hwz.out⟩
end Go.Proofs.YtedlpcioegbmfaaDoor
