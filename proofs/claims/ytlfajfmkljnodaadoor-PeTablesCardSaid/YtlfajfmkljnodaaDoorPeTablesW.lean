/- The walk of the law PeTables. -/
import Derived.Test.YtlfajfmkljnodaaDoorPeWorks
import Derived.Test.YtlfajfmkljnodaaDoorPeFr
import Derived.Test.YtlfajfmkljnodaaDoorPeLaid
import Derived.Test.YtlfajfmkljnodaaDoorPeRGet
namespace Go.Proofs.YtlfajfmkljnodaaDoor
open Go.RowKit
set_option maxRecDepth 100000
set_option linter.unusedVariables false
set_option linter.unusedSimpArgs false
set_option maxHeartbeats 8000000 in
theorem peTables_walk (w : World) (V : ShV) (s : Pe.Shape) (h : ShRd w w.heap.size V s) (a1 : Int) (h1 : (Lit.int .u32 a1).wf = true) (a2 : Int) (h2 : (Lit.int .u32 a2).wf = true) :
    Calls Tryd.prog 9 #[.agg V.cells, .int .u32 a1, .int .u32 a2] w fun e w' => e = .returned (.bool true) ∧ Below w.heap.size w w' := by
  obtain ⟨off, rfl, hoff⟩ : ∃ m : Nat, a1 = (m : Int) ∧ m < 4294967296 := by
    have e1 : IntKind.u32.min = 0 := rfl
    have e2 : IntKind.u32.max = 4294967295 := rfl
    simp only [Lit.wf, Bool.and_eq_true, decide_eq_true_eq] at h1
    exact ⟨a1.toNat, by omega, by omega⟩
  clear h1
  obtain ⟨len, rfl, hlen⟩ : ∃ m : Nat, a2 = (m : Int) ∧ m < 4294967296 := by
    have e1 : IntKind.u32.min = 0 := rfl
    have e2 : IntKind.u32.max = 4294967295 := rfl
    simp only [Lit.wf, Bool.and_eq_true, decide_eq_true_eq] at h2
    exact ⟨a2.toNat, by omega, by omega⟩
  clear h2
  have hB0 : Bs (w.alloc (.cells V.cells 39)) w.heap.size V := Blk.new _ _ _
  have hbw0 : Below w.heap.size w (w.alloc (.cells V.cells 39)) := below_one w _
  have hr0 : ShRd (w.alloc (.cells V.cells 39)) (w.alloc (.cells V.cells 39)).heap.size V s := (h.below hbw0).more (by simp)
  obtain ⟨W0, hW0⟩ : ∃ W0, w.alloc (.cells V.cells 39) = W0 := ⟨_, rfl⟩
  rw [hW0] at hB0 hbw0 hr0
  have H := Lib.hid (And.intro hB0 (And.intro hr0 (And.intro hbw0 hW0)))
  clear h hB0 hr0 hbw0 hW0
  go_enter Tryd.func9, Tryd.ntmps9
  go_upto_region 1 with fail
  rw [H.out.2.2.2]
  go_wp2_with (first
    | ((with_reducible refine at_load_sh ?_); refine wpList_load_sh rfl _ rfl w.heap.size V rfl H.out.1 ?_)
    | fail)
  refine (brought_any V s W0 H.out.2.1).mono ?_
  rintro e w1 ⟨V1, rfl, hr1, hb1⟩
  have ho := Pe.brought_ok s
  have h8 := Pe.brought_sigs s
  have hol := Pe.order_len s
  obtain ⟨S, hS⟩ : ∃ S, Pe.brought s = S := ⟨_, rfl⟩
  rw [hS] at hr1 ho h8 hol
  have hread := Pe.Shape.write_read ho
  obtain ⟨he0, hi0⟩ := Pe.read_err hread ho h8
  have hsm := S.write_small ho
  obtain ⟨b, hb⟩ : ∃ b, Pe.write S = b := ⟨_, rfl⟩
  rw [hb] at hread he0 hi0 hsm
  have HN := Lib.hid (And.intro ho (And.intro hread (And.intro he0 (And.intro hi0 (And.intro hb (And.intro hol hS))))))
  clear ho hread he0 hi0 hb hol hS
  have hbw1 := H.out.2.2.1.trans (hb1.mono H.out.2.2.1.size)
  have H1 := Lib.hid (And.intro hr1 (And.intro hbw1 hr1.one))
  clear hr1 hb1 hbw1
  go_upto_region 2 with (first
    | ((with_reducible refine at_store_sh ?_); refine wpList_store_sh rfl _ _ rfl w1.heap.size ShV.zero V1 rfl rfl (Blk.new w1 _ _) H1.out.2.2 ?_; intro w2 hB2 hg2)
    | fail)
  have hb12 : Below w1.heap.size w1 w2 := (below_one w1 _).grown hg2 (by simp) (fun k e => by injection e with e; omega)
  have hr2 : ShRd w2 w2.heap.size V1 S := (H1.out.1.below hb12).more hb12.size
  have hbw2 := H1.out.2.1.trans (hb12.mono H1.out.2.1.size)
  have hx2 : w1.heap.size < w2.heap.size := hB2.lt
  obtain ⟨xb, hxb⟩ : ∃ xb, w1.heap.size = xb := ⟨_, rfl⟩
  rw [hxb] at hB2 hx2 ⊢
  have H2 := Lib.hid (And.intro hB2 (And.intro hr2 hbw2))
  clear hB2 hg2 hb12 hr2 hbw2 H1 hxb
  go_wp2_with (first
    | ((with_reducible refine at_load_sh ?_); refine wpList_load_sh rfl _ rfl xb V1 rfl H2.out.1 ?_)
    | fail)
  refine (write_any V1 S w2 H2.out.2.1 HN.out.1 HN.out.2.2.2.2.2.1).mono ?_
  rw [HN.out.2.2.2.2.1]
  rintro e w3 ⟨A3, n3, c3, rfl, ho3, hb3⟩
  obtain ⟨_, _, _, e3, hr3⟩ := ho3.rd
  injection e3 with q1 q2 q3
  subst q1 q2 q3
  have hl3 := hr3.len
  have hbw3 := H2.out.2.2.trans (hb3.mono H2.out.2.2.size)
  have hB3 := H2.out.1.below hb3 hx2
  have hsh3 := (H2.out.2.1.below hb3).more hb3.size
  have hx3 : xb < w3.heap.size := hB3.lt
  have H3 := Lib.hid (And.intro hr3 (And.intro hB3 (And.intro hsh3 hbw3)))
  clear hr3 hb3 hbw3 hB3 hsh3 ho3 H2 hx2
  go_wp2_with fail
  refine (pe_parse_any A3 n3 c3 b w3 H3.out.1).mono ?_
  rintro e w4 ⟨hb4, C, rfl, hC, _, hok⟩
  have hI := hok HN.out.2.2.1
  rw [HN.out.2.2.1]
  have H4 := Lib.hid (And.intro hb4 (And.intro hC hI))
  clear hb4 hC hI hok
  go_upto_region 4 with (first
    | ((with_reducible refine at_store_img ?_); refine wpList_store_img rfl _ _ rfl w4.heap.size IV.zero C rfl rfl (Blk.new w4 _ _) H4.out.2.1 ?_; intro w5 hB5 hg5)
    | fail)
  have hb45 : Below w4.heap.size w4 w5 := (below_one w4 _).grown hg5 (by simp) (fun k e => by injection e with e; omega)
  have hb35 : Below w3.heap.size w3 w5 := H4.out.1.trans (hb45.mono H4.out.1.size)
  have hx5 : xb < w5.heap.size := Nat.lt_of_lt_of_le hx3 hb35.size
  have hi5 : w4.heap.size < w5.heap.size := hB5.lt
  obtain ⟨ib, hib⟩ : ∃ ib, w4.heap.size = ib := ⟨_, rfl⟩
  have hbw5 : Below w.heap.size w w5 := H3.out.2.2.2.trans (hb35.mono H3.out.2.2.2.size)
  have hI5 := H4.out.2.2.later hb45
  have hsn := hI5.sn HN.out.2.2.2.1
  have hF : ∀ W, Below w5.heap.size w5 W → Bs W xb V1 ∧ ShRd W w5.heap.size V1 S ∧ Rd W w5.heap.size A3 n3 c3 b ∧ Bi W ib C ∧ ImgOwn b C w3.heap.size W := fun W hW => by
    have h3W : Below w3.heap.size w3 W := hb35.trans (hW.mono hb35.size)
    exact ⟨H3.out.2.1.below h3W hx3, (H3.out.2.2.1.below h3W).more hb35.size, (H3.out.1.below h3W).more hb35.size, by rw [← hib]; exact hB5.below hW hi5, hI5.later hW⟩
  rw [hib] at hi5 ⊢
  have HF := Lib.hid hF
  have HB := Lib.hid (And.intro hbw5 (And.intro hsn H4.out.2.1))
  clear hF hbw5 hsn hI5 hB5 hg5 hb45 hb35 hx3 hib H3 H4
  obtain ⟨z1, z2, z3, z4, z5⟩ := S.sizes_
  have z0 := HN.out.1.stub
  have z6 := HN.out.2.1.made.fits
  have z7 := HN.out.1.ten
  obtain ⟨dr, hdr⟩ : ∃ d, S.table - 96 = d := ⟨_, rfl⟩
  have hdl : 216 ≤ dr ∧ dr + 8 ≤ n3 ∧ dr ≤ 600 := by omega
  have hd4 : S.table - 92 = dr + 4 := by omega
  have hCd : C.dir = dr := HB.out.2.1.dir.trans hdr
  have hk2 : ∀ W, Below w5.heap.size w5 W → W.cell? ⟨ib, 2, none⟩ = some (.int .i64 (dr : Int)) := fun W hW => by rw [← hCd]; exact (HF.out W hW).2.2.2.1.cell 2
  have k2 := hk2 w5 (Below.refl _ _)
  have hnl : n3 ≤ 11100 := by omega
  have hl1 : ∀ W, Below w5.heap.size w5 W → Calls Tryd.prog 24 #[.slice A3 n3 c3, .int .i64 (dr : Int), .int .u64 (off : Int), .int .i64 4] W (RetOwn (Pe.putAt b dr off 4) W) := fun W hW => laid_any A3 n3 c3 dr off 4 (dr : Int) (off : Int) b W ((HF.out W hW).2.2.1.more hW.size) (by omega) rfl rfl (by omega) (by omega) (.inr (.inr rfl))
  have i1 : IntKind.u64.wrap (off : Int) = (off : Int) := by simp only [IntKind.wrap, IntKind.bits, IntKind.signed]; simp; omega
  have i2 : IntKind.u64.wrap (len : Int) = (len : Int) := by simp only [IntKind.wrap, IntKind.bits, IntKind.signed]; simp; omega
  have i3 : IntKind.i64.wrap ((dr : Int) + 4) = (dr : Int) + 4 := by rw [IntKind.wrap_i64]; omega
  have hl2 : ∀ (W : World) (A6 : Option Addr) (n6 c6 : Nat), OwnB W w5.heap.size W.heap.size (.slice A6 n6 c6) (Pe.putAt b dr off 4) → Calls Tryd.prog 24 #[.slice A6 n6 c6, .int .i64 ((dr : Int) + 4), .int .u64 (len : Int), .int .i64 4] W (RetOwn (Pe.putAt (Pe.putAt b dr off 4) (dr + 4) len 4) W) := by
    intro W A6 n6 c6 ho
    obtain ⟨_, _, _, e6, hr6⟩ := ho.rd
    injection e6 with q1 q2 q3
    subst q1 q2 q3
    have hl6 := hr6.len
    rw [Pe.putAt_len _ _ _ _ (by omega)] at hl6
    exact laid_any A6 n6 c6 (dr + 4) len 4 ((dr : Int) + 4) (len : Int) (Pe.putAt b dr off 4) W hr6 (by omega) (by omega) rfl (by omega) (by omega) (.inr (.inr rfl))
  have HL := Lib.hid (And.intro hl1 (And.intro hk2 (And.intro hdr (And.intro hd4 hl2))))
  clear hl1 hk2 z1 z2 z3 z4 z5 z6 z0 z7 hdr hd4 hCd hl2
  go_upto_region 6 with fail
  go_region_held3 (fun w' => w'.cell? ⟨ib, 2, none⟩ = some (.int .i64 (dr : Int))) (go_keep)
    (first
      | (go_at_call 24; ((with_reducible refine (HL.out.1 _ (by exact (Below.refl _ _).drew)).mono ?_); rintro e w6 ⟨A6, n6, c6, rfl, ho6, hb6⟩); have hb56 : Below w5.heap.size w5 w6 := (Below.refl w5.heap.size w5).drew.trans hb6; have k2a := HL.out.2.1 w6 hb56; have ho6' : OwnB w6 w5.heap.size w6.heap.size (.slice A6 n6 c6) (Pe.putAt b dr off 4) := ho6; have HA := Lib.hid (And.intro ho6' hb56); clear ho6 hb6 hb56 ho6')
      | (go_at_call 24; ((with_reducible refine (HL.out.2.2.2.2 _ _ _ _ (by exact HA.out.1)).mono ?_); rintro e w7 ⟨A7, n7, c7, rfl, ho7, hb7⟩); have hb57 : Below w5.heap.size w5 w7 := HA.out.2.trans (hb7.mono HA.out.2.size); have k2b := HL.out.2.1 w7 hb57; have HA7 := Lib.hid (And.intro ho7 hb57); clear ho7 hb7 hb57))
  clear i1 k2
  obtain ⟨_, _, _, e7, hr7⟩ := HA7.out.1.rd
  injection e7 with q1 q2 q3
  subst q1 q2 q3
  have hb57 := HA7.out.2
  obtain ⟨c, hc⟩ : ∃ c, S.tabs b off len = c := ⟨_, rfl⟩
  have hc' : Pe.putAt (Pe.putAt b dr off 4) (dr + 4) len 4 = c := by rw [← hc]; unfold Pe.Shape.tabs; rw [HL.out.2.2.1, HL.out.2.2.2.1]
  rw [hc'] at hr7
  have H7 := Lib.hid (And.intro hr7 (And.intro hb57 hc))
  clear hr7 hb57 hc hc' i2 i3
  go_wp2_with fail
  refine (pe_parse_any A7 n7 c7 c w7 H7.out.1).mono ?_
  rintro e w9 ⟨hbw9, D, rfl, honeD, hzD, hokD⟩
  obtain ⟨erD, herD⟩ : ∃ er, Pe.err (c) = er := ⟨_, rfl⟩
  have HDD := Lib.hid (And.intro honeD (And.intro hokD (And.intro herD hbw9)))
  rw [herD]
  clear honeD hokD herD hbw9 hzD
  go_upto_region 8 with (first
    | ((with_reducible refine at_store_img ?_); refine wpList_store_img rfl _ _ rfl w9.heap.size IV.zero D rfl rfl (Blk.new w9 _ _) HDD.out.1 ?_; intro w9s hBs hgs)
    | fail)
  have hbs : Below w9.heap.size w9 w9s := (below_one w9 _).grown hgs (by simp) (fun k e => by injection e with e; omega)
  obtain ⟨jb, hjb⟩ : ∃ j, w9.heap.size = j := ⟨_, rfl⟩
  have hjl : w9.heap.size < w9s.heap.size := hBs.lt
  rw [hjb] at hBs hjl ⊢
  have HSD := Lib.hid (And.intro hBs (And.intro hbs (And.intro hjl hjb)))
  clear hBs hgs hbs hjl hjb
  have hb59 : Below w5.heap.size w5 w9s := H7.out.2.1.trans ((HDD.out.2.2.2.trans (HSD.out.2.1.mono HDD.out.2.2.2.size)).mono H7.out.2.1.size)
  have hend : Below w.heap.size w w9s := HB.out.1.trans (hb59.mono HB.out.1.size)
  have h9 := HF.out w9s hb59
  obtain ⟨tb, htb⟩ : ∃ t, C.table = t := ⟨_, rfl⟩
  obtain ⟨ln, hln⟩ : ∃ t, C.length = t := ⟨_, rfl⟩
  have m5 : w9s.cell? ⟨ib, 5, none⟩ = some (.int .u32 (tb : Int)) := by rw [← htb]; exact h9.2.2.2.1.cell 5
  have m6 : w9s.cell? ⟨ib, 6, none⟩ = some (.int .u32 (ln : Int)) := by rw [← hln]; exact h9.2.2.2.1.cell 6
  have hSt : S.img.table = tb := (HB.out.2.1.table.symm.trans htb)
  have hSl : S.img.length = ln := (HB.out.2.1.length.symm.trans hln)
  have HE := Lib.hid (And.intro hend (And.intro h9 (And.intro hSt hSl)))
  clear hb59 hend h9 hSt hSl htb hln
  by_cases hA : off = 0 ∧ len = 0
  · obtain ⟨rfl, rfl⟩ := hA
    have hp := HN.out.2.1.tabs_none HN.out.1
    rw [H7.out.2.2] at hp
    have g1 : Pe.err c = 0 := congrArg Prod.fst hp
    have g2 : Pe.img c = ⟨S.plus, S.opt + 64, S.table - 96, S.headers, S.secs, 0, 0, []⟩ := by
      have := congrArg Prod.snd hp
      unfold Pe.parse at this
      rw [g1] at this
      exact this
    obtain rfl : erD = 0 := HDD.out.2.2.1.symm.trans g1
    have hDo := (HDD.out.2.1 g1).later HSD.out.2.1
    obtain ⟨_, _, _, _, d5, d6⟩ := hDo.img
    have s1 : Pe.secs c = Pe.secs b := (congrArg Pe.Img.secs g2).trans (congrArg Pe.Img.secs HN.out.2.2.2.1).symm
    have s2 : Pe.sigs c = [] := congrArg Pe.Img.sigs g2
    rw [g2] at d5 d6
    obtain ⟨B4, f4, e4, _⟩ := hDo.secs.rdS
    obtain ⟨D4, g4, e4', _⟩ := HE.out.2.1.2.2.2.2.secs.rdS
    rw [s1] at e4
    obtain ⟨mm, hmm⟩ : ∃ m, (Pe.secs b).length = m := ⟨_, rfl⟩
    rw [hmm] at e4 e4'
    obtain ⟨l7, hsg, hl7⟩ := hDo.sigs
    rw [s2] at hl7
    obtain rfl : l7 = [] := List.map_eq_nil_iff.1 hl7
    obtain ⟨A9, c9, e9, _⟩ := hsg.row.shape
    have y4 : w9s.cell? ⟨jb, 4, none⟩ = some (.slice B4 mm f4) := (HSD.out.1.cell 4).trans (by show some D.secs = _; rw [e4])
    have x4 : w9s.cell? ⟨ib, 4, none⟩ = some (.slice D4 mm g4) := (HE.out.2.1.2.2.2.1.cell 4).trans (by show some C.secs = _; rw [e4'])
    have y5 : w9s.cell? ⟨jb, 5, none⟩ = some (.int .u32 0) := (HSD.out.1.cell 5).trans (by show some (Value.int .u32 (D.table : Int)) = _; rw [d5]; rfl)
    have y6 : w9s.cell? ⟨jb, 6, none⟩ = some (.int .u32 0) := (HSD.out.1.cell 6).trans (by show some (Value.int .u32 (D.length : Int)) = _; rw [d6]; rfl)
    have y7 : w9s.cell? ⟨jb, 7, none⟩ = some (.slice A9 0 c9) := (HSD.out.1.cell 7).trans (by show some D.sigs = _; rw [e9]; rfl)
    clear hp g1 g2 hDo d5 d6 s1 s2 e4 e4' hmm hsg hl7 e9 m5 m6
    go_wp2_with fail
    refine (works_any w9s).mono ?_
    rintro e w11 ⟨rfl, hb11⟩
    have H11 := Lib.hid (HE.out.1.trans (hb11.mono HE.out.1.size))
    clear hb11
    go_wp2_with fail
    go_ret
    exact ⟨rfl, H11.out⟩
  · have HA0 := Lib.hid hA
    clear hA
    by_cases hz0 : off = 0
    · have hz1 : ((off : Int) == 0) = true := by simp; omega
      have hz2 : ((len : Int) == 0) = false := by have := HA0.out; simp; omega
      by_cases hT : off = tb ∧ len = ln
      · obtain ⟨rfl, rfl⟩ := hT
        have hp := HN.out.2.1.tabs_same HN.out.1
        rw [HE.out.2.2.1, HE.out.2.2.2, H7.out.2.2] at hp
        subst hp
        obtain rfl : erD = 0 := HDD.out.2.2.1.symm.trans HN.out.2.2.1
        have hDo := (HDD.out.2.1 HN.out.2.2.1).later HSD.out.2.1
        have hs := same_own HE.out.2.1.2.2.2.2 hDo HN.out.2.2.1 rfl
        have HS := Lib.hid hs
        clear hs hDo
        go_wp2_with (first
          | ((with_reducible refine at_load_img ?_); refine wpList_load_img_g _ rfl ib C rfl HE.out.2.1.2.2.2.1 (by rfl) ?_)
          | ((with_reducible refine at_load_img ?_); refine wpList_load_img_g _ rfl jb D rfl HSD.out.1 (by rfl) ?_)
          | fail)
        refine HS.out.mono ?_
        rintro e w10 ⟨rfl, hb10⟩
        have H10 := Lib.hid (HE.out.1.trans (hb10.mono HE.out.1.size))
        clear hb10
        go_wp2_with fail
        refine (works_any w10).mono ?_
        rintro e w11 ⟨rfl, hb11⟩
        have H11 := Lib.hid (H10.out.trans (hb11.mono H10.out.size))
        clear hb11
        go_wp2_with fail
        go_ret
        exact ⟨rfl, H11.out⟩
      · have HT0 := Lib.hid hT
        clear hT
        have hwo : IntKind.i64.wrap (off : Int) = (off : Int) := by rw [IntKind.wrap_i64]; omega
        have hwl : IntKind.i64.wrap (len : Int) = (len : Int) := by rw [IntKind.wrap_i64]; omega
        by_cases he : erD = 0
        · subst he
          have ho := HN.out.2.1.tabs_other HN.out.1 hoff hlen HA0.out (by rw [H7.out.2.2]; exact HDD.out.2.2.1)
          rw [H7.out.2.2] at ho
          obtain ⟨g1, g2, g3⟩ := ho
          have hDo := (HDD.out.2.1 HDD.out.2.2.1).later HSD.out.2.1
          obtain ⟨_, _, _, _, d5, d6⟩ := hDo.img
          have y5 : w9s.cell? ⟨jb, 5, none⟩ = some (.int .u32 (off : Int)) := (HSD.out.1.cell 5).trans (by show some (Value.int .u32 (D.table : Int)) = _; rw [d5, g1])
          have y6 : w9s.cell? ⟨jb, 6, none⟩ = some (.int .u32 (len : Int)) := (HSD.out.1.cell 6).trans (by show some (Value.int .u32 (D.length : Int)) = _; rw [d6, g2])
          have hsum : (off : Int) + len = n3 := by omega
          clear g1 g2 g3 hDo d5 d6
          by_cases h3 : off = tb
          · have h4 : ((len : Int) == ln) = false := by have := HT0.out; simp; omega
            have h3' : ((off : Int) == tb) = true := by simp; omega
            go_wp2_with fail
            refine (works_any w9s).mono ?_
            rintro e w11 ⟨rfl, hb11⟩
            have H11 := Lib.hid (HE.out.1.trans (hb11.mono HE.out.1.size))
            clear hb11
            go_wp2_with fail
            go_ret
            exact ⟨rfl, H11.out⟩
          · have h3' : ((off : Int) == tb) = false := by simp; omega
            go_wp2_with fail
            refine (works_any w9s).mono ?_
            rintro e w11 ⟨rfl, hb11⟩
            have H11 := Lib.hid (HE.out.1.trans (hb11.mono HE.out.1.size))
            clear hb11
            go_wp2_with fail
            go_ret
            exact ⟨rfl, H11.out⟩
        · have he' : ((erD : Int) != 0) = true := by simp; omega
          by_cases h3 : off = tb
          · have h4 : ((len : Int) == ln) = false := by have := HT0.out; simp; omega
            have h3' : ((off : Int) == tb) = true := by simp; omega
            go_wp2_with fail
            refine (works_any w9s).mono ?_
            rintro e w11 ⟨rfl, hb11⟩
            have H11 := Lib.hid (HE.out.1.trans (hb11.mono HE.out.1.size))
            clear hb11
            go_wp2_with fail
            go_ret
            exact ⟨rfl, H11.out⟩
          · have h3' : ((off : Int) == tb) = false := by simp; omega
            go_wp2_with fail
            refine (works_any w9s).mono ?_
            rintro e w11 ⟨rfl, hb11⟩
            have H11 := Lib.hid (HE.out.1.trans (hb11.mono HE.out.1.size))
            clear hb11
            go_wp2_with fail
            go_ret
            exact ⟨rfl, H11.out⟩
    · have hz1 : ((off : Int) == 0) = false := by simp; omega
      by_cases hT : off = tb ∧ len = ln
      · obtain ⟨rfl, rfl⟩ := hT
        have hp := HN.out.2.1.tabs_same HN.out.1
        rw [HE.out.2.2.1, HE.out.2.2.2, H7.out.2.2] at hp
        subst hp
        obtain rfl : erD = 0 := HDD.out.2.2.1.symm.trans HN.out.2.2.1
        have hDo := (HDD.out.2.1 HN.out.2.2.1).later HSD.out.2.1
        have hs := same_own HE.out.2.1.2.2.2.2 hDo HN.out.2.2.1 rfl
        have HS := Lib.hid hs
        clear hs hDo
        go_wp2_with (first
          | ((with_reducible refine at_load_img ?_); refine wpList_load_img_g _ rfl ib C rfl HE.out.2.1.2.2.2.1 (by rfl) ?_)
          | ((with_reducible refine at_load_img ?_); refine wpList_load_img_g _ rfl jb D rfl HSD.out.1 (by rfl) ?_)
          | fail)
        refine HS.out.mono ?_
        rintro e w10 ⟨rfl, hb10⟩
        have H10 := Lib.hid (HE.out.1.trans (hb10.mono HE.out.1.size))
        clear hb10
        go_wp2_with fail
        refine (works_any w10).mono ?_
        rintro e w11 ⟨rfl, hb11⟩
        have H11 := Lib.hid (H10.out.trans (hb11.mono H10.out.size))
        clear hb11
        go_wp2_with fail
        go_ret
        exact ⟨rfl, H11.out⟩
      · have HT0 := Lib.hid hT
        clear hT
        have hwo : IntKind.i64.wrap (off : Int) = (off : Int) := by rw [IntKind.wrap_i64]; omega
        have hwl : IntKind.i64.wrap (len : Int) = (len : Int) := by rw [IntKind.wrap_i64]; omega
        by_cases he : erD = 0
        · subst he
          have ho := HN.out.2.1.tabs_other HN.out.1 hoff hlen HA0.out (by rw [H7.out.2.2]; exact HDD.out.2.2.1)
          rw [H7.out.2.2] at ho
          obtain ⟨g1, g2, g3⟩ := ho
          have hDo := (HDD.out.2.1 HDD.out.2.2.1).later HSD.out.2.1
          obtain ⟨_, _, _, _, d5, d6⟩ := hDo.img
          have y5 : w9s.cell? ⟨jb, 5, none⟩ = some (.int .u32 (off : Int)) := (HSD.out.1.cell 5).trans (by show some (Value.int .u32 (D.table : Int)) = _; rw [d5, g1])
          have y6 : w9s.cell? ⟨jb, 6, none⟩ = some (.int .u32 (len : Int)) := (HSD.out.1.cell 6).trans (by show some (Value.int .u32 (D.length : Int)) = _; rw [d6, g2])
          have hsum : (off : Int) + len = n3 := by omega
          clear g1 g2 g3 hDo d5 d6
          by_cases h3 : off = tb
          · have h4 : ((len : Int) == ln) = false := by have := HT0.out; simp; omega
            have h3' : ((off : Int) == tb) = true := by simp; omega
            go_wp2_with fail
            refine (works_any w9s).mono ?_
            rintro e w11 ⟨rfl, hb11⟩
            have H11 := Lib.hid (HE.out.1.trans (hb11.mono HE.out.1.size))
            clear hb11
            go_wp2_with fail
            go_ret
            exact ⟨rfl, H11.out⟩
          · have h3' : ((off : Int) == tb) = false := by simp; omega
            go_wp2_with fail
            refine (works_any w9s).mono ?_
            rintro e w11 ⟨rfl, hb11⟩
            have H11 := Lib.hid (HE.out.1.trans (hb11.mono HE.out.1.size))
            clear hb11
            go_wp2_with fail
            go_ret
            exact ⟨rfl, H11.out⟩
        · have he' : ((erD : Int) != 0) = true := by simp; omega
          by_cases h3 : off = tb
          · have h4 : ((len : Int) == ln) = false := by have := HT0.out; simp; omega
            have h3' : ((off : Int) == tb) = true := by simp; omega
            go_wp2_with fail
            refine (works_any w9s).mono ?_
            rintro e w11 ⟨rfl, hb11⟩
            have H11 := Lib.hid (HE.out.1.trans (hb11.mono HE.out.1.size))
            clear hb11
            go_wp2_with fail
            go_ret
            exact ⟨rfl, H11.out⟩
          · have h3' : ((off : Int) == tb) = false := by simp; omega
            go_wp2_with fail
            refine (works_any w9s).mono ?_
            rintro e w11 ⟨rfl, hb11⟩
            have H11 := Lib.hid (HE.out.1.trans (hb11.mono HE.out.1.size))
            clear hb11
            go_wp2_with fail
            go_ret
            exact ⟨rfl, H11.out⟩
end Go.Proofs.YtlfajfmkljnodaaDoor
