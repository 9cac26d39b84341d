/- The walk of the law PeChecks. -/
import Derived.Test.YtlfajfmkljnodaaDoorPeWorks
import Derived.Test.YtlfajfmkljnodaaDoorPeFr
import Derived.Test.YtlfajfmkljnodaaDoorPeLaid
import Derived.Test.YtlfajfmkljnodaaDoorPeRGet
import Derived.Test.YtlfajfmkljnodaaDoorPeTurn0
namespace Go.Proofs.YtlfajfmkljnodaaDoor
open Go.RowKit
set_option maxRecDepth 100000
set_option linter.unusedVariables false
set_option linter.unusedSimpArgs false
set_option maxHeartbeats 8000000 in
theorem peChecks_walk (w : World) (V : ShV) (s : Pe.Shape) (ka kb : Nat) (v : UInt8) (h : ShRd w w.heap.size V s) (hka : ka < 4294967296) (hkb : kb < 65536) :
    Calls Tryd.prog 8 #[.agg (turnCells V ka kb v)] w fun e w' => e = .returned (.bool true) ∧ Below w.heap.size w w' := by
  have hB0 : Blk (w.alloc (.cells (turnCells V ka kb v) 54)) w.heap.size 54 (turnCells V ka kb v) := Blk.new _ _ _
  have hbw0 : Below w.heap.size w (w.alloc (.cells (turnCells V ka kb v) 54)) := below_one w _
  have hr0 : ShRd (w.alloc (.cells (turnCells V ka kb v) 54)) (w.alloc (.cells (turnCells V ka kb v) 54)).heap.size V s := (h.below hbw0).more (by simp)
  obtain ⟨W0, hW0⟩ : ∃ W0, w.alloc (.cells (turnCells V ka kb v) 54) = W0 := ⟨_, rfl⟩
  rw [hW0] at hB0 hbw0 hr0
  have H := Lib.hid (And.intro hB0 (And.intro hr0 (And.intro hbw0 hW0)))
  clear h hB0 hr0 hbw0 hW0
  go_enter Tryd.func8, Tryd.ntmps8
  go_upto_region 1 with fail
  rw [H.out.2.2.2]
  go_wp2_with (first
    | ((with_reducible refine at_load_sh ?_); refine wpList_load_turn rfl _ rfl w.heap.size V rfl H.out.1 ?_)
    | fail)
  refine (brought_any V s W0 H.out.2.1).mono ?_
  rintro e w1 ⟨V1, rfl, hr1, hb1⟩
  have ho := Pe.brought_ok s
  have h8 := Pe.brought_sigs s
  have hol := Pe.order_len s
  obtain ⟨S, hS⟩ : ∃ S, Pe.brought s = S := ⟨_, rfl⟩
  rw [hS] at hr1 ho h8 hol
  have hread := Pe.Shape.write_read ho
  obtain ⟨he0, hi0⟩ := Pe.read_err hread ho h8
  have hsm := S.write_small ho
  obtain ⟨b, hb⟩ : ∃ b, Pe.write S = b := ⟨_, rfl⟩
  rw [hb] at hread he0 hi0 hsm
  have HN := Lib.hid (And.intro ho (And.intro hread (And.intro he0 (And.intro hi0 (And.intro hb (And.intro hol hS))))))
  clear ho hread he0 hi0 hb hol hS
  have HT1 := Lib.hid (H.out.1.below hb1 H.out.1.lt)
  have hbw1 := H.out.2.2.1.trans (hb1.mono H.out.2.2.1.size)
  have H1 := Lib.hid (And.intro hr1 (And.intro hbw1 hr1.one))
  clear hr1 hb1 hbw1
  go_upto_region 2 with (first
    | ((with_reducible refine at_store_sh ?_); refine wpList_store_sh rfl _ _ rfl w1.heap.size ShV.zero V1 rfl rfl (Blk.new w1 _ _) H1.out.2.2 ?_; intro w2 hB2 hg2)
    | fail)
  have hb12 : Below w1.heap.size w1 w2 := (below_one w1 _).grown hg2 (by simp) (fun k e => by injection e with e; omega)
  have hr2 : ShRd w2 w2.heap.size V1 S := (H1.out.1.below hb12).more hb12.size
  have hbw2 := H1.out.2.1.trans (hb12.mono H1.out.2.1.size)
  have hx2 : w1.heap.size < w2.heap.size := hB2.lt
  obtain ⟨xb, hxb⟩ : ∃ xb, w1.heap.size = xb := ⟨_, rfl⟩
  rw [hxb] at hB2 hx2 ⊢
  have H2 := Lib.hid (And.intro hB2 (And.intro hr2 hbw2))
  have HT2 := Lib.hid (HT1.out.below hb12 HT1.out.lt)
  clear HT1
  clear hB2 hg2 hb12 hr2 hbw2 H1 hxb
  go_wp2_with (first
    | ((with_reducible refine at_load_sh ?_); refine wpList_load_sh rfl _ rfl xb V1 rfl H2.out.1 ?_)
    | fail)
  refine (write_any V1 S w2 H2.out.2.1 HN.out.1 HN.out.2.2.2.2.2.1).mono ?_
  rw [HN.out.2.2.2.2.1]
  rintro e w3 ⟨A3, n3, c3, rfl, ho3, hb3⟩
  obtain ⟨_, _, _, e3, hr3⟩ := ho3.rd
  injection e3 with q1 q2 q3
  subst q1 q2 q3
  have hl3 := hr3.len
  have HT3 := Lib.hid (HT2.out.below hb3 HT2.out.lt)
  clear HT2
  have hbw3 := H2.out.2.2.trans (hb3.mono H2.out.2.2.size)
  have hB3 := H2.out.1.below hb3 hx2
  have hsh3 := (H2.out.2.1.below hb3).more hb3.size
  have hx3 : xb < w3.heap.size := hB3.lt
  have H3 := Lib.hid (And.intro hr3 (And.intro hB3 (And.intro hsh3 hbw3)))
  clear hr3 hb3 hbw3 hB3 hsh3 ho3 H2 hx2
  go_wp2_with fail
  refine (pe_parse_any A3 n3 c3 b w3 H3.out.1).mono ?_
  rintro e w4 ⟨hb4, C, rfl, hC, _, hok⟩
  have hI := hok HN.out.2.2.1
  rw [HN.out.2.2.1]
  have H4 := Lib.hid (And.intro hb4 (And.intro hC hI))
  clear hb4 hC hI hok
  go_upto_region 4 with (first
    | ((with_reducible refine at_store_img ?_); refine wpList_store_img rfl _ _ rfl w4.heap.size IV.zero C rfl rfl (Blk.new w4 _ _) H4.out.2.1 ?_; intro w5 hB5 hg5)
    | fail)
  have hb45 : Below w4.heap.size w4 w5 := (below_one w4 _).grown hg5 (by simp) (fun k e => by injection e with e; omega)
  have hb35 : Below w3.heap.size w3 w5 := H4.out.1.trans (hb45.mono H4.out.1.size)
  have HT := Lib.hid (HT3.out.below hb35 HT3.out.lt)
  clear HT3
  have hx5 : xb < w5.heap.size := Nat.lt_of_lt_of_le hx3 hb35.size
  have hi5 : w4.heap.size < w5.heap.size := hB5.lt
  obtain ⟨ib, hib⟩ : ∃ ib, w4.heap.size = ib := ⟨_, rfl⟩
  have hbw5 : Below w.heap.size w w5 := H3.out.2.2.2.trans (hb35.mono H3.out.2.2.2.size)
  have hI5 := H4.out.2.2.later hb45
  have hsn := hI5.sn HN.out.2.2.2.1
  have hF : ∀ W, Below w5.heap.size w5 W → Bs W xb V1 ∧ ShRd W w5.heap.size V1 S ∧ Rd W w5.heap.size A3 n3 c3 b ∧ Bi W ib C ∧ ImgOwn b C w3.heap.size W := fun W hW => by
    have h3W : Below w3.heap.size w3 W := hb35.trans (hW.mono hb35.size)
    exact ⟨H3.out.2.1.below h3W hx3, (H3.out.2.2.1.below h3W).more hb35.size, (H3.out.1.below h3W).more hb35.size, by rw [← hib]; exact hB5.below hW hi5, hI5.later hW⟩
  rw [hib] at hi5 ⊢
  have HF := Lib.hid hF
  have HB := Lib.hid (And.intro hbw5 (And.intro hsn H4.out.2.1))
  clear hF hbw5 hsn hI5 hB5 hg5 hb45 hb35 hx3 hib H3 H4
  obtain ⟨ck, hck⟩ : ∃ x, C.check = x := ⟨_, rfl⟩
  obtain ⟨hd, hhd⟩ : ∃ x, C.headers = x := ⟨_, rfl⟩
  obtain ⟨ln, hln⟩ : ∃ x, C.length = x := ⟨_, rfl⟩
  have sck : S.opt + 64 = ck := HB.out.2.1.check.symm.trans hck
  have shd : S.headers = hd := HB.out.2.1.headers.symm.trans hhd
  have sln : ln = if S.sigs = [] then 0 else (Pe.sigTable S.sigs).length := hln.symm.trans HB.out.2.1.length
  have hwl := S.write_len HN.out.1
  rw [HN.out.2.2.2.2.1, hl3] at hwl
  have htile : S.headers + S.total S.order' + S.behind.length ≤ S.from_ := by unfold Pe.Shape.from_ Pe.up; omega
  obtain ⟨en, hen⟩ : ∃ x, n3 - ln = x := ⟨_, rfl⟩
  have hen2 : (S.sigs = [] → en = n3) ∧ (S.sigs ≠ [] → en = S.from_) ∧ ln ≤ n3 := by
    by_cases hs : S.sigs = []
    · rw [if_pos hs] at sln; exact ⟨fun _ => by omega, fun h => absurd hs h, by omega⟩
    · rw [if_neg hs] at sln hwl; exact ⟨fun h => absurd h hs, fun _ => by omega, by omega⟩
  have hnl : n3 ≤ 11100 := by omega
  have hei : (n3 : Int) - (ln : Int) = (en : Int) := by have := hen2.2.2; omega
  obtain ⟨z1, z2, z3, z4, z5⟩ := S.sizes_
  have z6 := HN.out.2.1.made.fits
  have hckl : ck + 4 ≤ hd ∧ hd ≤ n3 := by omega
  have hf : ∀ W, Below w5.heap.size w5 W → W.cell? ⟨ib, 1, none⟩ = some (.int .i64 (ck : Int)) ∧ W.cell? ⟨ib, 3, none⟩ = some (.int .u32 (hd : Int)) ∧ W.cell? ⟨ib, 6, none⟩ = some (.int .u32 (ln : Int)) ∧ W.cell? ⟨w.heap.size, 7, none⟩ = some (.int .u32 (ka : Int)) ∧ W.cell? ⟨w.heap.size, 8, none⟩ = some (.int .u16 (kb : Int)) ∧ W.cell? ⟨w.heap.size, 9, none⟩ = some (.int .u8 (v.toNat : Int)) := fun W hW => by
    have h := (HF.out W hW).2.2.2.1
    have h' := HT.out.below hW HT.out.lt
    exact ⟨by rw [← hck]; exact h.cell 1, by rw [← hhd]; exact h.cell 3, by rw [← hln]; exact h.cell 6, h'.cell 7, h'.cell 8, h'.cell 9⟩
  have hl1 : ∀ W, Below w5.heap.size w5 W → Calls Tryd.prog 24 #[.slice A3 n3 c3, .int .i64 (ck : Int), .int .u64 (ka : Int), .int .i64 4] W (RetOwn (Pe.putAt b ck ka 4) W) := fun W hW => laid_any A3 n3 c3 ck ka 4 (ck : Int) (ka : Int) b W ((HF.out W hW).2.2.1.more hW.size) (by omega) rfl rfl (by omega) (by omega) (.inr (.inr rfl))
  have j1 : IntKind.u64.wrap (ka : Int) = (ka : Int) := by simp only [IntKind.wrap, IntKind.bits, IntKind.signed]; simp; omega
  have hvl : v.toNat < 256 := v.toNat_lt
  have j2 : IntKind.u64.wrap (v.toNat : Int) = (v.toNat : Int) := by simp only [IntKind.wrap, IntKind.bits, IntKind.signed]; simp; omega
  obtain ⟨k1, k3, k6, t7, t8, t9⟩ := hf w5 (Below.refl _ _)
  have HL := Lib.hid (And.intro hl1 (And.intro hf (And.intro sck (And.intro shd (And.intro hen2 (And.intro z4 (And.intro z6 htile)))))))
  clear hl1 hf hck hhd hln sck shd sln hwl htile hen hen2 z1 z2 z3 z4 z5 z6 k3 k6 t8 t9
  go_wp2_with fail
  refine (HL.out.1 w5 (Below.refl w5.heap.size w5)).mono ?_
  rintro e w6 ⟨Xa, Xn, Xc, rfl, how6, hbw6⟩
  obtain ⟨_, _, _, ew6, hrw6⟩ := how6.rd
  injection ew6 with q1 q2 q3
  subst q1 q2 q3
  have hb5w6 := (Below.refl w5.heap.size w5).trans (hbw6.mono (Below.refl w5.heap.size w5).size)
  obtain ⟨c1, hc1⟩ : ∃ x, Pe.putAt b ck ka 4 = x := ⟨_, rfl⟩
  rw [hc1] at hrw6
  have H6 := Lib.hid (And.intro hrw6 (And.intro hb5w6 hc1))
  clear how6 hbw6 hrw6 hb5w6 hc1
  have hXn : Xn = n3 := by
    have h1 := H6.out.1.len
    rw [← H6.out.2.2, Pe.putAt_len _ _ _ _ (by omega)] at h1
    omega
  subst hXn
  have hc1l := H6.out.1.len
  clear k1 t7 j1
  obtain ⟨k1, k3, k6, t7, t8, t9⟩ := HL.out.2.1 w6 H6.out.2.1
  by_cases hlt : (hd : Int) < en
  · obtain ⟨z, hz⟩ : ∃ z, en - hd = z := ⟨_, rfl⟩
    have hzi : (en : Int) - (hd : Int) = (z : Int) := by omega
    have hz1 : 1 ≤ z := by omega
    have hz0 : ((z : Int) == 0) = false := by simp; omega
    obtain ⟨y, hy⟩ : ∃ y, kb % z = y := ⟨_, rfl⟩
    have hyl : y < z := by rw [← hy]; exact Nat.mod_lt _ (by omega)
    have hmy : Int.tmod (kb : Int) (z : Int) = (y : Int) := by rw [← hy]; rfl
    obtain ⟨p, hp⟩ : ∃ p, hd + y = p := ⟨_, rfl⟩
    have hpi : (hd : Int) + (y : Int) = (p : Int) := by omega
    have hpl : p < en ∧ en ≤ Xn := by omega
    have hz0' : ¬ ((z : Int) = 0) := by omega
    have hz0'' : ¬ (z = 0) := by omega
    have hzF : (z = 0) = False := eq_false hz0''
    have hzF2 : ((z : Int) = 0) = False := eq_false hz0'
    have b1 : IntKind.i64.wrap (hd : Int) = (hd : Int) := by rw [IntKind.wrap_i64]; omega
    have b2 : IntKind.i64.wrap (kb : Int) = (kb : Int) := by rw [IntKind.wrap_i64]; omega
    have b3 : IntKind.i64.wrap ((en : Int) - (hd : Int)) = (z : Int) := by rw [IntKind.wrap_i64]; omega
    have b6 : IntKind.i64.wrap (z : Int) = (z : Int) := by rw [IntKind.wrap_i64]; omega
    have b7 : IntKind.i64.wrap (p : Int) = (p : Int) := by rw [IntKind.wrap_i64]; omega
    have b4 : IntKind.i64.wrap (y : Int) = (y : Int) := by rw [IntKind.wrap_i64]; omega
    have b5 : IntKind.i64.wrap ((hd : Int) + (y : Int)) = (p : Int) := by rw [IntKind.wrap_i64]; omega
    have hl2 : ∀ W, Below w6.heap.size w6 W → Calls Tryd.prog 24 #[.slice Xa Xn Xc, .int .i64 (p : Int), .int .u64 (v.toNat : Int), .int .i64 1] W (RetOwn (Pe.putAt c1 p v.toNat 1) W) := fun W hW => laid_any Xa Xn Xc p v.toNat 1 (p : Int) (v.toNat : Int) c1 W ((H6.out.1.below hW).more hW.size) (by omega) rfl rfl (by omega) (by omega) (.inl rfl)
    have H7 := Lib.hid (And.intro hl2 (And.intro hp hz))
    clear hl2 hp hy hz
    go_upto_region 9 with fail
    go_region_held3 (fun w' => w'.cell? ⟨ib, 3, none⟩ = some (.int .u32 (hd : Int)) ∧ w'.cell? ⟨w.heap.size, 8, none⟩ = some (.int .u16 (kb : Int)) ∧ w'.cell? ⟨w.heap.size, 9, none⟩ = some (.int .u8 (v.toNat : Int))) (go_keep)
      (first
        | (go_at_call 24; ((with_reducible refine (H7.out.1 _ (by exact (Below.refl _ _).drew)).mono ?_); rintro e w7 ⟨A7, n7, c7, rfl, ho7, hb7⟩); have hb67 : Below w6.heap.size w6 w7 := (Below.refl w6.heap.size w6).drew.trans hb7; have hb57 := H6.out.2.1.trans (hb67.mono H6.out.2.1.size); have k3a := (HL.out.2.1 w7 hb57).2.1; have k8a := (HL.out.2.1 w7 hb57).2.2.2.2.1; have k9a := (HL.out.2.1 w7 hb57).2.2.2.2.2; have HA7 := Lib.hid (And.intro ho7 hb57); clear ho7 hb7 hb67 hb57))
    obtain ⟨_, _, _, e7, hr7⟩ := HA7.out.1.rd
    injection e7 with q1 q2 q3
    subst q1 q2 q3
    obtain ⟨c, hc⟩ : ∃ c, Pe.putAt c1 p v.toNat 1 = c := ⟨_, rfl⟩
    rw [hc] at hr7
    have hread : Pe.Read S c := by
      have hcl : c.length = b.length := by rw [← hc, Pe.putAt_len _ _ _ _ (by omega), hc1l, hl3]
      have al : ∀ q m, (q + m ≤ ck ∨ ck + 4 ≤ q) → (q + m ≤ p ∨ p + 1 ≤ q) → Pe.Alike c b q m := fun q m g1 g2 => by
        rw [← hc]
        refine (Pe.alike_putAt c1 (by omega) g2).trans ?_
        rw [← H6.out.2.2]
        exact Pe.alike_putAt b (by omega) g1
      have sck := HL.out.2.2.1
      have shd := HL.out.2.2.2.1
      have hen2 := HL.out.2.2.2.2.1
      have hp := H7.out.2.1
      refine HN.out.2.1.keep HN.out.1 hcl (al _ _ (by omega) (by omega)) (al _ _ (by omega) (by omega)) (fun hs => al _ _ (by have := HL.out.2.2.2.2.2.2.2; omega) (by have := hen2.2.1 hs; omega))
    obtain ⟨g1, g2⟩ := Pe.read_err hread HN.out.1 h8
    have H8 := Lib.hid (And.intro hr7 (And.intro HA7.out.2 (And.intro g1 g2)))
    clear hr7 hc hread g1 g2
    go_wp2_with fail
    refine (pe_parse_any A7 n7 c7 c w7 H8.out.1).mono ?_
    rintro e w9 ⟨hbw9, D, rfl, honeD, hzD, hokD⟩
    obtain ⟨erD, herD⟩ : ∃ er, Pe.err (c) = er := ⟨_, rfl⟩
    have HDD := Lib.hid (And.intro honeD (And.intro hokD (And.intro herD hbw9)))
    rw [herD]
    clear honeD hokD herD hbw9 hzD
    go_upto_region 11 with (first
      | ((with_reducible refine at_store_img ?_); refine wpList_store_img rfl _ _ rfl w9.heap.size IV.zero D rfl rfl (Blk.new w9 _ _) HDD.out.1 ?_; intro w9s hBs hgs)
      | fail)
    have hbs : Below w9.heap.size w9 w9s := (below_one w9 _).grown hgs (by simp) (fun k e => by injection e with e; omega)
    obtain ⟨jb, hjb⟩ : ∃ j, w9.heap.size = j := ⟨_, rfl⟩
    have hjl : w9.heap.size < w9s.heap.size := hBs.lt
    rw [hjb] at hBs hjl ⊢
    have HSD := Lib.hid (And.intro hBs (And.intro hbs (And.intro hjl hjb)))
    clear hBs hgs hbs hjl hjb
    have hb59 : Below w5.heap.size w5 w9s := H8.out.2.1.trans ((HDD.out.2.2.2.trans (HSD.out.2.1.mono HDD.out.2.2.2.size)).mono H8.out.2.1.size)
    have hend : Below w.heap.size w w9s := HB.out.1.trans (hb59.mono HB.out.1.size)
    have h9 := HF.out w9s hb59
    obtain rfl : erD = 0 := HDD.out.2.2.1.symm.trans H8.out.2.2.1
    have hDo := (HDD.out.2.1 H8.out.2.2.1).later HSD.out.2.1
    have hs := same_own h9.2.2.2.2 hDo HN.out.2.2.1 (HN.out.2.2.2.1.trans H8.out.2.2.2.symm)
    have HS := Lib.hid (And.intro hs (And.intro hend h9.2.2.2.1))
    clear hs hDo h9 hend hb59
    go_wp2_with (first
      | ((with_reducible refine at_load_img ?_); refine wpList_load_img_g _ rfl ib C rfl HS.out.2.2 (by rfl) ?_)
      | ((with_reducible refine at_load_img ?_); refine wpList_load_img_g _ rfl jb D rfl HSD.out.1 (by rfl) ?_)
      | fail)
    refine HS.out.1.mono ?_
    rintro e w10 ⟨rfl, hb10⟩
    have H10 := Lib.hid (HS.out.2.1.trans (hb10.mono HS.out.2.1.size))
    clear hb10
    go_wp2_with fail
    refine (works_any w10).mono ?_
    rintro e w11 ⟨rfl, hb11⟩
    have H11 := Lib.hid (H10.out.trans (hb11.mono H10.out.size))
    clear hb11
    go_wp2_with fail
    go_ret
    exact ⟨rfl, H11.out⟩
  · obtain ⟨c, hc⟩ : ∃ c, c1 = c := ⟨_, rfl⟩
    have hread : Pe.Read S c := by
      have hcl : c.length = b.length := by rw [← hc, hc1l, hl3]
      have al : ∀ q m, (q + m ≤ ck ∨ ck + 4 ≤ q) → Pe.Alike c b q m := fun q m g1 => by
        rw [← hc, ← H6.out.2.2]
        exact Pe.alike_putAt b (by omega) g1
      have sck := HL.out.2.2.1
      have shd := HL.out.2.2.2.1
      refine HN.out.2.1.keep HN.out.1 hcl (al _ _ (by omega)) (al _ _ (by omega)) (fun hs => al _ _ (by have := HL.out.2.2.2.2.2.2.2; omega))
    obtain ⟨g1, g2⟩ := Pe.read_err hread HN.out.1 h8
    have hr7 := H6.out.1
    rw [hc] at hr7
    have H8 := Lib.hid (And.intro hr7 (And.intro H6.out.2.1 (And.intro g1 g2)))
    clear hr7 hc hread g1 g2
    go_wp2_with fail
    refine (pe_parse_any Xa Xn Xc c w6 H8.out.1).mono ?_
    rintro e w9 ⟨hbw9, D, rfl, honeD, hzD, hokD⟩
    obtain ⟨erD, herD⟩ : ∃ er, Pe.err (c) = er := ⟨_, rfl⟩
    have HDD := Lib.hid (And.intro honeD (And.intro hokD (And.intro herD hbw9)))
    rw [herD]
    clear honeD hokD herD hbw9 hzD
    go_upto_region 11 with (first
      | ((with_reducible refine at_store_img ?_); refine wpList_store_img rfl _ _ rfl w9.heap.size IV.zero D rfl rfl (Blk.new w9 _ _) HDD.out.1 ?_; intro w9s hBs hgs)
      | fail)
    have hbs : Below w9.heap.size w9 w9s := (below_one w9 _).grown hgs (by simp) (fun k e => by injection e with e; omega)
    obtain ⟨jb, hjb⟩ : ∃ j, w9.heap.size = j := ⟨_, rfl⟩
    have hjl : w9.heap.size < w9s.heap.size := hBs.lt
    rw [hjb] at hBs hjl ⊢
    have HSD := Lib.hid (And.intro hBs (And.intro hbs (And.intro hjl hjb)))
    clear hBs hgs hbs hjl hjb
    have hb59 : Below w5.heap.size w5 w9s := H8.out.2.1.trans ((HDD.out.2.2.2.trans (HSD.out.2.1.mono HDD.out.2.2.2.size)).mono H8.out.2.1.size)
    have hend : Below w.heap.size w w9s := HB.out.1.trans (hb59.mono HB.out.1.size)
    have h9 := HF.out w9s hb59
    obtain rfl : erD = 0 := HDD.out.2.2.1.symm.trans H8.out.2.2.1
    have hDo := (HDD.out.2.1 H8.out.2.2.1).later HSD.out.2.1
    have hs := same_own h9.2.2.2.2 hDo HN.out.2.2.1 (HN.out.2.2.2.1.trans H8.out.2.2.2.symm)
    have HS := Lib.hid (And.intro hs (And.intro hend h9.2.2.2.1))
    clear hs hDo h9 hend hb59
    go_wp2_with (first
      | ((with_reducible refine at_load_img ?_); refine wpList_load_img_g _ rfl ib C rfl HS.out.2.2 (by rfl) ?_)
      | ((with_reducible refine at_load_img ?_); refine wpList_load_img_g _ rfl jb D rfl HSD.out.1 (by rfl) ?_)
      | fail)
    refine HS.out.1.mono ?_
    rintro e w10 ⟨rfl, hb10⟩
    have H10 := Lib.hid (HS.out.2.1.trans (hb10.mono HS.out.2.1.size))
    clear hb10
    go_wp2_with fail
    refine (works_any w10).mono ?_
    rintro e w11 ⟨rfl, hb11⟩
    have H11 := Lib.hid (H10.out.trans (hb11.mono H10.out.size))
    clear hb11
    go_wp2_with fail
    go_ret
    exact ⟨rfl, H11.out⟩
end Go.Proofs.YtlfajfmkljnodaaDoor
