/- The walk of the law PeCounts. -/
import Derived.Test.YtlfajfmkljnodaaDoorPeWorks
import Derived.Test.YtlfajfmkljnodaaDoorPeFr
import Derived.Test.YtlfajfmkljnodaaDoorPeLaid
import Derived.Test.YtlfajfmkljnodaaDoorPeRGet
import Derived.Test.YtlfajfmkljnodaaDoorPeCnt0
namespace Go.Proofs.YtlfajfmkljnodaaDoor
open Go.RowKit
set_option maxRecDepth 100000
set_option linter.unusedVariables false
set_option linter.unusedSimpArgs false
set_option maxHeartbeats 8000000 in
theorem peCounts_walk (w : World) (V : ShV) (s : Pe.Shape) (h : ShRd w w.heap.size V s) (a1 : Int) (h1 : (Lit.int .u32 a1).wf = true) (a2 : Int) (h2 : (Lit.int .u32 a2).wf = true) :
    Calls Tryd.prog 11 #[.agg V.cells, .int .u32 a1, .int .u32 a2] w fun e w' => e = .returned (.bool true) ∧ Below w.heap.size w w' := by
  obtain ⟨kk, rfl, hkk⟩ : ∃ m : Nat, a1 = (m : Int) ∧ m < 4294967296 := by
    have e1 : IntKind.u32.min = 0 := rfl
    have e2 : IntKind.u32.max = 4294967295 := rfl
    simp only [Lit.wf, Bool.and_eq_true, decide_eq_true_eq] at h1
    exact ⟨a1.toNat, by omega, by omega⟩
  clear h1
  obtain ⟨hh, rfl, hhh⟩ : ∃ m : Nat, a2 = (m : Int) ∧ m < 4294967296 := by
    have e1 : IntKind.u32.min = 0 := rfl
    have e2 : IntKind.u32.max = 4294967295 := rfl
    simp only [Lit.wf, Bool.and_eq_true, decide_eq_true_eq] at h2
    exact ⟨a2.toNat, by omega, by omega⟩
  clear h2
  have hB0 : Bs (w.alloc (.cells V.cells 39)) w.heap.size V := Blk.new _ _ _
  have hbw0 : Below w.heap.size w (w.alloc (.cells V.cells 39)) := below_one w _
  have hr0 : ShRd (w.alloc (.cells V.cells 39)) (w.alloc (.cells V.cells 39)).heap.size V s := (h.below hbw0).more (by simp)
  obtain ⟨W0, hW0⟩ : ∃ W0, w.alloc (.cells V.cells 39) = W0 := ⟨_, rfl⟩
  rw [hW0] at hB0 hbw0 hr0
  have H := Lib.hid (And.intro hB0 (And.intro hr0 (And.intro hbw0 hW0)))
  clear h hB0 hr0 hbw0 hW0
  go_enter Tryd.func11, Tryd.ntmps11
  go_upto_region 1 with fail
  rw [H.out.2.2.2]
  go_wp2_with (first
    | ((with_reducible refine at_load_sh ?_); refine wpList_load_sh rfl _ rfl w.heap.size V rfl H.out.1 ?_)
    | fail)
  refine (brought_any V s W0 H.out.2.1).mono ?_
  rintro e w1 ⟨V1, rfl, hr1, hb1⟩
  have ho := Pe.brought_ok s
  have h8 := Pe.brought_sigs s
  have hol := Pe.order_len s
  obtain ⟨S, hS⟩ : ∃ S, Pe.brought s = S := ⟨_, rfl⟩
  rw [hS] at hr1 ho h8 hol
  have hread := Pe.Shape.write_read ho
  obtain ⟨he0, hi0⟩ := Pe.read_err hread ho h8
  have hsm := S.write_small ho
  obtain ⟨b, hb⟩ : ∃ b, Pe.write S = b := ⟨_, rfl⟩
  rw [hb] at hread he0 hi0 hsm
  have HN := Lib.hid (And.intro ho (And.intro hread (And.intro he0 (And.intro hi0 (And.intro hb (And.intro hol hS))))))
  clear ho hread he0 hi0 hb hol hS
  have hbw1 := H.out.2.2.1.trans (hb1.mono H.out.2.2.1.size)
  have H1 := Lib.hid (And.intro hr1 (And.intro hbw1 hr1.one))
  clear hr1 hb1 hbw1
  go_upto_region 2 with (first
    | ((with_reducible refine at_store_sh ?_); refine wpList_store_sh rfl _ _ rfl w1.heap.size ShV.zero V1 rfl rfl (Blk.new w1 _ _) H1.out.2.2 ?_; intro w2 hB2 hg2)
    | fail)
  have hb12 : Below w1.heap.size w1 w2 := (below_one w1 _).grown hg2 (by simp) (fun k e => by injection e with e; omega)
  have hr2 : ShRd w2 w2.heap.size V1 S := (H1.out.1.below hb12).more hb12.size
  have hbw2 := H1.out.2.1.trans (hb12.mono H1.out.2.1.size)
  have hx2 : w1.heap.size < w2.heap.size := hB2.lt
  obtain ⟨xb, hxb⟩ : ∃ xb, w1.heap.size = xb := ⟨_, rfl⟩
  rw [hxb] at hB2 hx2 ⊢
  have H2 := Lib.hid (And.intro hB2 (And.intro hr2 hbw2))
  clear hB2 hg2 hb12 hr2 hbw2 H1 hxb
  go_wp2_with (first
    | ((with_reducible refine at_load_sh ?_); refine wpList_load_sh rfl _ rfl xb V1 rfl H2.out.1 ?_)
    | fail)
  refine (write_any V1 S w2 H2.out.2.1 HN.out.1 HN.out.2.2.2.2.2.1).mono ?_
  rw [HN.out.2.2.2.2.1]
  rintro e w3 ⟨A3, n3, c3, rfl, ho3, hb3⟩
  obtain ⟨_, _, _, e3, hr3⟩ := ho3.rd
  injection e3 with q1 q2 q3
  subst q1 q2 q3
  have hl3 := hr3.len
  have hbw3 := H2.out.2.2.trans (hb3.mono H2.out.2.2.size)
  have hB3 := H2.out.1.below hb3 hx2
  have hsh3 := (H2.out.2.1.below hb3).more hb3.size
  have hx3 : xb < w3.heap.size := hB3.lt
  have H3 := Lib.hid (And.intro hr3 (And.intro hB3 (And.intro hsh3 hbw3)))
  clear hr3 hb3 hbw3 hB3 hsh3 ho3 H2 hx2
  go_wp2_with fail
  refine (pe_parse_any A3 n3 c3 b w3 H3.out.1).mono ?_
  rintro e w4 ⟨hb4, C, rfl, hC, _, hok⟩
  have hI := hok HN.out.2.2.1
  rw [HN.out.2.2.1]
  have H4 := Lib.hid (And.intro hb4 (And.intro hC hI))
  clear hb4 hC hI hok
  go_upto_region 4 with (first
    | ((with_reducible refine at_store_img ?_); refine wpList_store_img rfl _ _ rfl w4.heap.size IV.zero C rfl rfl (Blk.new w4 _ _) H4.out.2.1 ?_; intro w5 hB5 hg5)
    | fail)
  have hb45 : Below w4.heap.size w4 w5 := (below_one w4 _).grown hg5 (by simp) (fun k e => by injection e with e; omega)
  have hb35 : Below w3.heap.size w3 w5 := H4.out.1.trans (hb45.mono H4.out.1.size)
  have hx5 : xb < w5.heap.size := Nat.lt_of_lt_of_le hx3 hb35.size
  have hi5 : w4.heap.size < w5.heap.size := hB5.lt
  obtain ⟨ib, hib⟩ : ∃ ib, w4.heap.size = ib := ⟨_, rfl⟩
  have hbw5 : Below w.heap.size w w5 := H3.out.2.2.2.trans (hb35.mono H3.out.2.2.2.size)
  have hI5 := H4.out.2.2.later hb45
  have hsn := hI5.sn HN.out.2.2.2.1
  have hF : ∀ W, Below w5.heap.size w5 W → Bs W xb V1 ∧ ShRd W w5.heap.size V1 S ∧ Rd W w5.heap.size A3 n3 c3 b ∧ Bi W ib C ∧ ImgOwn b C w3.heap.size W := fun W hW => by
    have h3W : Below w3.heap.size w3 W := hb35.trans (hW.mono hb35.size)
    exact ⟨H3.out.2.1.below h3W hx3, (H3.out.2.2.1.below h3W).more hb35.size, (H3.out.1.below h3W).more hb35.size, by rw [← hib]; exact hB5.below hW hi5, hI5.later hW⟩
  rw [hib] at hi5 ⊢
  have HF := Lib.hid hF
  have HB := Lib.hid (And.intro hbw5 (And.intro hsn H4.out.2.1))
  clear hF hbw5 hsn hI5 hB5 hg5 hb45 hb35 hx3 hib H3 H4
  obtain ⟨A6, n6, c6, l6, e6, r6, hl6⟩ := (HF.out w5 (Below.refl _ _)).2.1.bodies
  have hn6 : S.bodies.length = n6 := by rw [← hl6, List.length_map]; exact r6.len
  have hn61 := HN.out.1.one
  have hn610 := HN.out.1.ten
  rw [hn6] at hn61 hn610
  have hb3 : ∀ W, Below w5.heap.size w5 W → W.cell? ⟨xb, 3, none⟩ = some (.slice A6 n6 c6) := fun W hW => ((HF.out W hW).1.cell 3).trans (by rw [← e6]; rfl)
  have HB3 := Lib.hid (And.intro hb3 (And.intro r6 (And.intro hl6 hn6)))
  have k3 := hb3 w5 (Below.refl _ _)
  clear hb3 r6 hl6 e6
  obtain ⟨z1, z2, z3, z4, z5⟩ := S.sizes_
  have z0 := HN.out.1.stub
  have z6 := HN.out.2.1.made.fits
  rw [hn6] at z4
  obtain ⟨A4, f4, e4, _⟩ := (HF.out w5 (Below.refl _ _)).2.2.2.2.secs.rdS
  obtain ⟨l7, hsg, _⟩ := (HF.out w5 (Below.refl _ _)).2.2.2.2.sigs
  obtain ⟨A7, f7, e7, _⟩ := hsg.row.shape
  obtain ⟨m4, hm4⟩ : ∃ m, (Pe.secs b).length = m := ⟨_, rfl⟩
  obtain ⟨m7, hm7⟩ : ∃ m, l7.length = m := ⟨_, rfl⟩
  rw [hm4] at e4
  rw [hm7] at e7
  clear hsg hm4 hm7
  obtain ⟨pl, ck, dr, hd, v4, tb, ln, v7⟩ := C
  dsimp only at e4 e7
  subst e4 e7
  have hck : ck = S.opt + 64 := HB.out.2.1.check
  have hdr : dr = S.table - 96 := HB.out.2.1.dir
  have hhd : hd = S.headers := HB.out.2.1.headers
  obtain ⟨p1, hp1⟩ : ∃ d, S.table - 132 = d := ⟨_, rfl⟩
  obtain ⟨p2, hp2⟩ : ∃ d, S.opt + 60 = d := ⟨_, rfl⟩
  have hb1l : p1 + 4 ≤ n3 ∧ p2 + 4 ≤ n3 ∧ p1 ≤ 2000 ∧ p2 ≤ 2000 := by omega
  have i1 : (dr : Int) - 36 = (p1 : Int) := by omega
  have i2 : (ck : Int) - 4 = (p2 : Int) := by omega
  have hnl : n3 ≤ 11100 := by omega
  have hdrl : 32 ≤ dr ∧ dr ≤ 1000 := by omega
  have hl1 : ∀ W, Below w5.heap.size w5 W → Calls Tryd.prog 24 #[.slice A3 n3 c3, .int .i64 (p1 : Int), .int .u64 (kk : Int), .int .i64 4] W (RetOwn (Pe.putAt b p1 kk 4) W) := fun W hW => laid_any A3 n3 c3 p1 kk 4 (p1 : Int) (kk : Int) b W ((HF.out W hW).2.2.1.more hW.size) (by omega) rfl rfl (by omega) (by omega) (.inr (.inr rfl))
  have hl2 : ∀ W, Below w5.heap.size w5 W → Calls Tryd.prog 24 #[.slice A3 n3 c3, .int .i64 (p2 : Int), .int .u64 (hh : Int), .int .i64 4] W (RetOwn (Pe.putAt b p2 hh 4) W) := fun W hW => laid_any A3 n3 c3 p2 hh 4 (p2 : Int) (hh : Int) b W ((HF.out W hW).2.2.1.more hW.size) (by omega) rfl rfl (by omega) (by omega) (.inr (.inr rfl))
  have hk : ∀ W, Below w5.heap.size w5 W → W.cell? ⟨ib, 0, none⟩ = some (.bool pl) ∧ W.cell? ⟨ib, 1, none⟩ = some (.int .i64 (ck : Int)) ∧ W.cell? ⟨ib, 2, none⟩ = some (.int .i64 (dr : Int)) ∧ W.cell? ⟨ib, 3, none⟩ = some (.int .u32 (hd : Int)) ∧ W.cell? ⟨ib, 4, none⟩ = some (.slice A4 m4 f4) ∧ W.cell? ⟨ib, 5, none⟩ = some (.int .u32 (tb : Int)) ∧ W.cell? ⟨ib, 6, none⟩ = some (.int .u32 (ln : Int)) ∧ W.cell? ⟨ib, 7, none⟩ = some (.slice A7 m7 f7) := fun W hW => by
    have h := (HF.out W hW).2.2.2.1
    exact ⟨h.cell 0, h.cell 1, h.cell 2, h.cell 3, h.cell 4, h.cell 5, h.cell 6, h.cell 7⟩
  have hrows : ∀ W, Calls Tryd.prog 22 #[.agg #[.bool pl, .int .i64 (ck : Int), .int .i64 (dr : Int), .int .u32 (hd : Int), .slice A4 m4 f4, .int .u32 (tb : Int), .int .u32 (ln : Int), .slice A7 m7 f7]] W fun e w' => e = .returned (.int .i64 ((dr : Int) + 96)) ∧ Below W.heap.size W w' := fun W => rows_of ⟨pl, ck, dr, hd, .slice A4 m4 f4, tb, ln, .slice A7 m7 f7⟩ W hdrl.1 (by have := hdrl.2; dsimp only; omega)
  have j1 : IntKind.u64.wrap (kk : Int) = (kk : Int) := by simp only [IntKind.wrap, IntKind.bits, IntKind.signed]; simp; omega
  have j2 : IntKind.u64.wrap (hh : Int) = (hh : Int) := by simp only [IntKind.wrap, IntKind.bits, IntKind.signed]; simp; omega
  obtain ⟨k0, k1, k2, q3, k4, k5, k6, k7⟩ := hk w5 (Below.refl _ _)
  have hT : (dr : Int) + 96 = S.table := by omega
  have HL := Lib.hid (And.intro hl1 (And.intro hl2 (And.intro hk (And.intro hrows (And.intro hp1 (And.intro hp2 (And.intro hT hhd)))))))
  clear hl1 hl2 hk hrows hp1 hp2 z1 z2 z3 z4 z5 z6 z0 hT k0 q3 k4 k5 k6 k7 k3 k1 hck hdr hhd
  go_wp2_with fail
  refine (HL.out.1 w5 (Below.refl w5.heap.size w5)).mono ?_
  rintro e w6 ⟨Xa, Xn, Xc, rfl, how6, hbw6⟩
  obtain ⟨_, _, _, ew6, hrw6⟩ := how6.rd
  injection ew6 with q1 q2 q3
  subst q1 q2 q3
  have hb5w6 := (Below.refl w5.heap.size w5).trans (hbw6.mono (Below.refl w5.heap.size w5).size)
  obtain ⟨c, hc⟩ : ∃ x, Pe.putAt b p1 kk 4 = x := ⟨_, rfl⟩
  rw [hc] at hrw6
  have H6 := Lib.hid (And.intro hrw6 (And.intro hb5w6 hc))
  clear how6 hbw6 hrw6 hb5w6 hc
  clear k2 i1 j1
  go_wp2_with fail
  refine (pe_parse_any Xa Xn Xc c w6 H6.out.1).mono ?_
  rintro e w7 ⟨hbw7, D, rfl, honeD, hzD, hokD⟩
  obtain ⟨erD, herD⟩ : ∃ er, Pe.err (c) = er := ⟨_, rfl⟩
  have HDD := Lib.hid (And.intro honeD (And.intro hokD (And.intro herD hbw7)))
  rw [herD]
  clear honeD hokD herD hbw7 hzD
  go_upto_region 8 with (first
    | ((with_reducible refine at_store_img ?_); refine wpList_store_img rfl _ _ rfl w7.heap.size IV.zero D rfl rfl (Blk.new w7 _ _) HDD.out.1 ?_; intro w7s hBs hgs)
    | fail)
  have hbs : Below w7.heap.size w7 w7s := (below_one w7 _).grown hgs (by simp) (fun k e => by injection e with e; omega)
  obtain ⟨jb, hjb⟩ : ∃ j, w7.heap.size = j := ⟨_, rfl⟩
  have hjl : w7.heap.size < w7s.heap.size := hBs.lt
  rw [hjb] at hBs hjl ⊢
  have HSD := Lib.hid (And.intro hBs (And.intro hbs (And.intro hjl hjb)))
  clear hBs hgs hbs hjl hjb
  have hb57 : Below w5.heap.size w5 w7s := H6.out.2.1.trans ((HDD.out.2.2.2.trans (HSD.out.2.1.mono HDD.out.2.2.2.size)).mono H6.out.2.1.size)
  have k1 := (HL.out.2.2.1 w7s hb57).2.1
  have H7 := Lib.hid hb57
  clear hb57
  go_wp2_with fail
  refine (HL.out.2.1 w7s H7.out).mono ?_
  rintro e w8 ⟨Ya, Yn, Yc, rfl, how8, hbw8⟩
  obtain ⟨_, _, _, ew8, hrw8⟩ := how8.rd
  injection ew8 with q1 q2 q3
  subst q1 q2 q3
  have hb5w8 := H7.out.trans (hbw8.mono H7.out.size)
  obtain ⟨d, hd⟩ : ∃ x, Pe.putAt b p2 hh 4 = x := ⟨_, rfl⟩
  rw [hd] at hrw8
  have H8 := Lib.hid (And.intro hrw8 (And.intro hb5w8 hd))
  clear how8 hbw8 hrw8 hb5w8 hd
  clear k1 i2 j2
  go_wp2_with fail
  refine (pe_parse_any Ya Yn Yc d w8 H8.out.1).mono ?_
  rintro e w9 ⟨hbw9, E, rfl, honeE, hzE, hokE⟩
  obtain ⟨erE, herE⟩ : ∃ er, Pe.err (d) = er := ⟨_, rfl⟩
  have HDE := Lib.hid (And.intro honeE (And.intro hokE (And.intro herE hbw9)))
  rw [herE]
  clear honeE hokE herE hbw9 hzE
  go_upto_region 10 with (first
    | ((with_reducible refine at_store_img ?_); refine wpList_store_img rfl _ _ rfl w9.heap.size IV.zero E rfl rfl (Blk.new w9 _ _) HDE.out.1 ?_; intro w9s hBs hgs)
    | fail)
  have hbs : Below w9.heap.size w9 w9s := (below_one w9 _).grown hgs (by simp) (fun k e => by injection e with e; omega)
  obtain ⟨jc, hjc⟩ : ∃ j, w9.heap.size = j := ⟨_, rfl⟩
  have hjl : w9.heap.size < w9s.heap.size := hBs.lt
  rw [hjc] at hBs hjl ⊢
  have HSE := Lib.hid (And.intro hBs (And.intro hbs (And.intro hjl hjc)))
  clear hBs hgs hbs hjl hjc
  have hb59 : Below w5.heap.size w5 w9s := H8.out.2.1.trans ((HDE.out.2.2.2.trans (HSE.out.2.1.mono HDE.out.2.2.2.size)).mono H8.out.2.1.size)
  have hend : Below w.heap.size w w9s := HB.out.1.trans (hb59.mono HB.out.1.size)
  obtain ⟨eh, heh⟩ : ∃ x, E.headers = x := ⟨_, rfl⟩
  have hP : ∀ W, Below w9s.heap.size w9s W → Bi W ib ⟨pl, ck, dr, hd, .slice A4 m4 f4, tb, ln, .slice A7 m7 f7⟩ ∧ W.cell? ⟨jc, 3, none⟩ = some (.int .u32 (eh : Int)) ∧ W.cell? ⟨xb, 3, none⟩ = some (.slice A6 n6 c6) := fun W hW => by
    have h5 : Below w5.heap.size w5 W := hb59.trans (hW.mono hb59.size)
    exact ⟨(HF.out W h5).2.2.2.1, by rw [← heh]; exact (HSE.out.1.below hW HSE.out.2.2.1).cell 3, HB3.out.1 W h5⟩
  have HE := Lib.hid (And.intro hend (And.intro hP heh))
  clear hend hP heh hb59
  have hlE : IntKind.i64.wrap (hh : Int) = (hh : Int) := by rw [IntKind.wrap_i64]; omega
  have hc1 : (erD = 0 ∧ kk = 16) ∨ (erD ≠ 0 ∧ kk ≠ 16) := by
    by_cases h : kk = 16
    · subst h
      have := HN.out.2.1.count_same HN.out.1
      rw [HL.out.2.2.2.2.1, H6.out.2.2] at this
      have h1 := HDD.out.2.2.1
      rw [this, HN.out.2.2.1] at h1
      exact .inl ⟨h1.symm, rfl⟩
    · have := HN.out.2.1.count HN.out.1 hkk h
      rw [HL.out.2.2.2.2.1, H6.out.2.2, HDD.out.2.2.1] at this
      exact .inr ⟨by omega, h⟩
  have hc2 : (hh = hd → erE = 0) ∧ (erE = 0 → eh = hh ∧ S.table + 40 * n6 ≤ hh ∧ hh ≤ n3) := by
    constructor
    · intro h
      have := HN.out.2.1.heads_same HN.out.1
      rw [← HL.out.2.2.2.2.2.2.2, ← h, HL.out.2.2.2.2.2.1, H8.out.2.2] at this
      have h1 := HDE.out.2.2.1
      rw [this, HN.out.2.2.1] at h1
      exact h1.symm
    · intro h
      subst h
      have h2 := HN.out.2.1.heads HN.out.1 hhh (by rw [HL.out.2.2.2.2.2.1, H8.out.2.2]; exact HDE.out.2.2.1)
      rw [HL.out.2.2.2.2.2.1, H8.out.2.2, HB3.out.2.2.2, hl3] at h2
      have h3 : E.headers = (Pe.img d).headers := (HDE.out.2.1 HDE.out.2.2.1).img.2.2.2.1
      rw [HE.out.2.2] at h3
      exact ⟨h3.trans h2.1, h2.2⟩
  have HC := Lib.hid hc2
  clear hc2
  rcases hc1 with ⟨rfl, rfl⟩ | ⟨hD, hK⟩
  · by_cases he : erE = 0
    · subst he
      obtain ⟨rfl, g1, g2⟩ := HC.out.2 rfl
      have g1' : (dr : Int) + 96 + 40 * n6 ≤ eh := by have := HL.out.2.2.2.2.2.2.1; omega
      have g2' : (eh : Int) ≤ n3 := by omega
      by_cases hq : eh = hd
      · have hq1 : ((eh : Int) != hd) = false := by simp; omega
        go_upto_region 12 with fail
        refine wp_region_facts (fun i => ([.int .i64 0, .bool false, .bool false, .pointer (some ⟨jc, 3, none⟩), .int .u32 (eh : Int), .int .u32 (eh : Int), .bool true, .bool true, .int .u32 (eh : Int), .int .i64 (eh : Int), .agg #[.bool pl, .int .i64 (ck : Int), .int .i64 (dr : Int), .int .u32 (hd : Int), .slice A4 m4 f4, .int .u32 (tb : Int), .int .u32 (ln : Int), .slice A7 m7 f7], .int .i64 ((dr : Int) + 96), .pointer (some ⟨xb, 3, none⟩), .slice A6 n6 c6, .int .i64 (n6 : Int), .int .i64 (40 * (n6 : Int)), .int .i64 ((dr : Int) + 96 + 40 * (n6 : Int)), .bool true, .bool true, .bool true, .int .u32 (eh : Int), .int .i64 (eh : Int), .slice A3 n3 c3, .int .i64 (n3 : Int), .bool true, .bool true, .bool true, .bool true, .int .u32 (eh : Int), .pointer (some ⟨ib, 3, none⟩), .int .u32 (hd : Int), .bool false, .bool false, .int .i64 0, .bool true, .bool true, .bool true, .bool true, .bool true, .bool true, .bool true] : List Value).getD i undef) (fun _ _ => True) (Below w9s.heap.size w9s) (RBel w9s)
          rfl (fun _ => RBel.refl _ _) (fun _ _ h k => k h) (fun _ _ _ _ _ => trivial) (by show dstsOk _ 97 = true; decide +kernel) (by decide +kernel) (Below.refl w9s.heap.size w9s).drew ⟨?_, ?_, ?_, ?_, ?_, ?_, ?_, ?_, ?_, ?_, ?_, ?_, ?_, ?_, ?_, ?_, ?_, ?_, ?_, ?_, ?_, ?_, ?_, ?_, ?_, ?_, ?_, ?_, ?_, ?_, ?_, ?_, ?_, ?_, ?_, ?_, ?_, ?_, ?_, ?_, ?_, trivial⟩ ?_
        · refine RStep.run (by simp) rfl ?_; intro a' W hfr hdep hG; have d1 : a'.eval (.tmp 16) = .int .i64 0 := hfr 16 (by decide +kernel); exact F_move rfl d1 trivial (RBel.refl _ _)
        · refine RStep.run (by simp) rfl ?_; intro a' W hfr hdep hG; have d1 : a'.eval (.tmp 57) = .int .i64 0 := hdep 0 (by decide +kernel); refine F_val (v := .bool false) ?_ trivial (RBel.refl _ _); simp only [execOp, d1]; first | (simp [go_sem, Act.eval, hq1, g1', g2', hlE]; done) | (simp [go_sem, Act.eval, hq1, g1', g2', hlE]; rw [IntKind.wrap_i64]; omega) | (simp [go_sem, Act.eval, hq1, g1', g2', hlE]; omega)
        · refine RStep.run (by simp) rfl ?_; intro a' W hfr hdep hG; have d1 : a'.eval (.tmp 58) = .bool false := hdep 1 (by decide +kernel); exact F_move rfl d1 trivial (RBel.refl _ _)
        · refine RStep.on 2 false false (by simp) rfl (by decide +kernel) rfl (fun h => absurd rfl h) (fun _ => ?_); intro a' W hfr hdep hG; have d1 : a'.eval (.tmp 15) = .pointer (some ⟨jc, 0, none⟩) := hfr 15 (by decide +kernel); refine F_val (v := .pointer (some ⟨jc, 3, none⟩)) ?_ trivial (RBel.refl _ _); simp only [execOp, d1]; first | (simp [go_sem, Act.eval, hq1, g1', g2', hlE]; done) | (simp [go_sem, Act.eval, hq1, g1', g2', hlE]; rw [IntKind.wrap_i64]; omega) | (simp [go_sem, Act.eval, hq1, g1', g2', hlE]; omega)
        · refine RStep.on 2 false false (by simp) rfl (by decide +kernel) rfl (fun h => absurd rfl h) (fun _ => ?_); intro a' W hfr hdep hG; have d1 : a'.eval (.tmp 60) = .pointer (some ⟨jc, 3, none⟩) := hdep 3 (by decide +kernel); exact F_load rfl d1 (load_u32R (HE.out.2.1 W hG).2.1) trivial (RBel.refl _ _)
        · refine RStep.on 2 false false (by simp) rfl (by decide +kernel) rfl (fun h => absurd rfl h) (fun _ => ?_); intro a' W hfr hdep hG; have d1 : a'.eval (.tmp 2) = .int .u32 (eh : Int) := hfr 2 (by decide +kernel); exact F_move rfl d1 trivial (RBel.refl _ _)
        · refine RStep.on 2 false false (by simp) rfl (by decide +kernel) rfl (fun h => absurd rfl h) (fun _ => ?_); intro a' W hfr hdep hG; have d1 : a'.eval (.tmp 61) = .int .u32 (eh : Int) := hdep 4 (by decide +kernel); have d2 : a'.eval (.tmp 62) = .int .u32 (eh : Int) := hdep 5 (by decide +kernel); refine F_val (v := .bool true) ?_ trivial (RBel.refl _ _); simp only [execOp, d1, d2]; first | (simp [go_sem, Act.eval, hq1, g1', g2', hlE]; done) | (simp [go_sem, Act.eval, hq1, g1', g2', hlE]; rw [IntKind.wrap_i64]; omega) | (simp [go_sem, Act.eval, hq1, g1', g2', hlE]; omega)
        · refine RStep.on 2 false false (by simp) rfl (by decide +kernel) rfl (fun h => absurd rfl h) (fun _ => ?_); intro a' W hfr hdep hG; have d1 : a'.eval (.tmp 63) = .bool true := hdep 6 (by decide +kernel); exact F_move rfl d1 trivial (RBel.refl _ _)
        · refine RStep.on 7 true true (by simp) rfl (by decide +kernel) rfl (fun h => absurd rfl h) (fun _ => ?_); intro a' W hfr hdep hG; have d1 : a'.eval (.tmp 2) = .int .u32 (eh : Int) := hfr 2 (by decide +kernel); exact F_move rfl d1 trivial (RBel.refl _ _)
        · refine RStep.on 7 true true (by simp) rfl (by decide +kernel) rfl (fun h => absurd rfl h) (fun _ => ?_); intro a' W hfr hdep hG; have d1 : a'.eval (.tmp 65) = .int .u32 (eh : Int) := hdep 8 (by decide +kernel); refine F_val (v := .int .i64 (eh : Int)) ?_ trivial (RBel.refl _ _); simp only [execOp, d1]; first | (simp [go_sem, Act.eval, hq1, g1', g2', hlE]; done) | (simp [go_sem, Act.eval, hq1, g1', g2', hlE]; rw [IntKind.wrap_i64]; omega) | (simp [go_sem, Act.eval, hq1, g1', g2', hlE]; omega)
        · refine RStep.on 7 true true (by simp) rfl (by decide +kernel) rfl (fun h => absurd rfl h) (fun _ => ?_); intro a' W hfr hdep hG; have d1 : a'.eval (.tmp 9) = .pointer (some ⟨ib, 0, none⟩) := hfr 9 (by decide +kernel); exact F_load rfl d1 (load_img (HE.out.2.1 W hG).1) trivial (RBel.refl _ _)
        · refine RStep.on 7 true true (by simp) rfl (by decide +kernel) rfl (fun h => absurd rfl h) (fun _ => ?_); intro a' W hfr hdep hG; have d1 : a'.eval (.tmp 67) = .agg #[.bool pl, .int .i64 (ck : Int), .int .i64 (dr : Int), .int .u32 (hd : Int), .slice A4 m4 f4, .int .u32 (tb : Int), .int .u32 (ln : Int), .slice A7 m7 f7] := hdep 10 (by decide +kernel); refine F_call rfl Tryd.func22 rfl (by decide) (args := #[.agg #[.bool pl, .int .i64 (ck : Int), .int .i64 (dr : Int), .int .u32 (hd : Int), .slice A4 m4 f4, .int .u32 (tb : Int), .int .u32 (ln : Int), .slice A7 m7 f7]]) (by simp only [List.map_toArray, List.map_cons, List.map_nil, d1] <;> rfl) (HL.out.2.2.2.1 W) ?_; rintro e w' ⟨rfl, hs'⟩; exact ⟨rfl, trivial, fun h => h.trans (hs'.mono h.size)⟩
        · refine RStep.on 7 true true (by simp) rfl (by decide +kernel) rfl (fun h => absurd rfl h) (fun _ => ?_); intro a' W hfr hdep hG; have d1 : a'.eval (.tmp 7) = .pointer (some ⟨xb, 0, none⟩) := hfr 7 (by decide +kernel); refine F_val (v := .pointer (some ⟨xb, 3, none⟩)) ?_ trivial (RBel.refl _ _); simp only [execOp, d1]; first | (simp [go_sem, Act.eval, hq1, g1', g2', hlE]; done) | (simp [go_sem, Act.eval, hq1, g1', g2', hlE]; rw [IntKind.wrap_i64]; omega) | (simp [go_sem, Act.eval, hq1, g1', g2', hlE]; omega)
        · refine RStep.on 7 true true (by simp) rfl (by decide +kernel) rfl (fun h => absurd rfl h) (fun _ => ?_); intro a' W hfr hdep hG; have d1 : a'.eval (.tmp 69) = .pointer (some ⟨xb, 3, none⟩) := hdep 12 (by decide +kernel); exact F_load rfl d1 (load_bytessR (HE.out.2.1 W hG).2.2) trivial (RBel.refl _ _)
        · refine RStep.on 7 true true (by simp) rfl (by decide +kernel) rfl (fun h => absurd rfl h) (fun _ => ?_); intro a' W hfr hdep hG; have d1 : a'.eval (.tmp 70) = .slice A6 n6 c6 := hdep 13 (by decide +kernel); exact F_lenL rfl d1 trivial (RBel.refl _ _)
        · refine RStep.on 7 true true (by simp) rfl (by decide +kernel) rfl (fun h => absurd rfl h) (fun _ => ?_); intro a' W hfr hdep hG; have d2 : a'.eval (.tmp 71) = .int .i64 (n6 : Int) := hdep 14 (by decide +kernel); refine F_val (v := .int .i64 (40 * (n6 : Int))) ?_ trivial (RBel.refl _ _); simp only [execOp, d2]; first | (simp [go_sem, Act.eval, hq1, g1', g2', hlE]; done) | (simp [go_sem, Act.eval, hq1, g1', g2', hlE]; rw [IntKind.wrap_i64]; omega) | (simp [go_sem, Act.eval, hq1, g1', g2', hlE]; omega)
        · refine RStep.on 7 true true (by simp) rfl (by decide +kernel) rfl (fun h => absurd rfl h) (fun _ => ?_); intro a' W hfr hdep hG; have d1 : a'.eval (.tmp 68) = .int .i64 ((dr : Int) + 96) := hdep 11 (by decide +kernel); have d2 : a'.eval (.tmp 72) = .int .i64 (40 * (n6 : Int)) := hdep 15 (by decide +kernel); refine F_val (v := .int .i64 ((dr : Int) + 96 + 40 * (n6 : Int))) ?_ trivial (RBel.refl _ _); simp only [execOp, d1, d2]; first | (simp [go_sem, Act.eval, hq1, g1', g2', hlE]; done) | (simp [go_sem, Act.eval, hq1, g1', g2', hlE]; rw [IntKind.wrap_i64]; omega) | (simp [go_sem, Act.eval, hq1, g1', g2', hlE]; omega)
        · refine RStep.on 7 true true (by simp) rfl (by decide +kernel) rfl (fun h => absurd rfl h) (fun _ => ?_); intro a' W hfr hdep hG; have d1 : a'.eval (.tmp 66) = .int .i64 (eh : Int) := hdep 9 (by decide +kernel); have d2 : a'.eval (.tmp 73) = .int .i64 ((dr : Int) + 96 + 40 * (n6 : Int)) := hdep 16 (by decide +kernel); refine F_val (v := .bool true) ?_ trivial (RBel.refl _ _); simp only [execOp, d1, d2]; first | (simp [go_sem, Act.eval, hq1, g1', g2', hlE]; done) | (simp [go_sem, Act.eval, hq1, g1', g2', hlE]; rw [IntKind.wrap_i64]; omega) | (simp [go_sem, Act.eval, hq1, g1', g2', hlE]; omega)
        · refine RStep.on 2 false false (by simp) rfl (by decide +kernel) rfl (fun h => absurd rfl h) (fun _ => ?_); intro a' W hfr hdep hG; have d1 : a'.eval (.tmp 64) = .bool true := hdep 7 (by decide +kernel); have d2 : a'.eval (.tmp 74) = .bool true := hdep 17 (by decide +kernel); exact F_pick rfl (b := true) d1 (by simpa using d2) trivial (RBel.refl _ _)
        · refine RStep.on 2 false false (by simp) rfl (by decide +kernel) rfl (fun h => absurd rfl h) (fun _ => ?_); intro a' W hfr hdep hG; have d1 : a'.eval (.tmp 75) = .bool true := hdep 18 (by decide +kernel); exact F_move rfl d1 trivial (RBel.refl _ _)
        · refine RStep.on 19 true true (by simp) rfl (by decide +kernel) rfl (fun h => absurd rfl h) (fun _ => ?_); intro a' W hfr hdep hG; have d1 : a'.eval (.tmp 2) = .int .u32 (eh : Int) := hfr 2 (by decide +kernel); exact F_move rfl d1 trivial (RBel.refl _ _)
        · refine RStep.on 19 true true (by simp) rfl (by decide +kernel) rfl (fun h => absurd rfl h) (fun _ => ?_); intro a' W hfr hdep hG; have d1 : a'.eval (.tmp 77) = .int .u32 (eh : Int) := hdep 20 (by decide +kernel); refine F_val (v := .int .i64 (eh : Int)) ?_ trivial (RBel.refl _ _); simp only [execOp, d1]; first | (simp [go_sem, Act.eval, hq1, g1', g2', hlE]; done) | (simp [go_sem, Act.eval, hq1, g1', g2', hlE]; rw [IntKind.wrap_i64]; omega) | (simp [go_sem, Act.eval, hq1, g1', g2', hlE]; omega)
        · refine RStep.on 19 true true (by simp) rfl (by decide +kernel) rfl (fun h => absurd rfl h) (fun _ => ?_); intro a' W hfr hdep hG; have d1 : a'.eval (.tmp 8) = .slice A3 n3 c3 := hfr 8 (by decide +kernel); exact F_move rfl d1 trivial (RBel.refl _ _)
        · refine RStep.on 19 true true (by simp) rfl (by decide +kernel) rfl (fun h => absurd rfl h) (fun _ => ?_); intro a' W hfr hdep hG; have d1 : a'.eval (.tmp 79) = .slice A3 n3 c3 := hdep 22 (by decide +kernel); exact F_len rfl d1 trivial (RBel.refl _ _)
        · refine RStep.on 19 true true (by simp) rfl (by decide +kernel) rfl (fun h => absurd rfl h) (fun _ => ?_); intro a' W hfr hdep hG; have d1 : a'.eval (.tmp 78) = .int .i64 (eh : Int) := hdep 21 (by decide +kernel); have d2 : a'.eval (.tmp 80) = .int .i64 (n3 : Int) := hdep 23 (by decide +kernel); refine F_val (v := .bool true) ?_ trivial (RBel.refl _ _); simp only [execOp, d1, d2]; first | (simp [go_sem, Act.eval, hq1, g1', g2', hlE]; done) | (simp [go_sem, Act.eval, hq1, g1', g2', hlE]; rw [IntKind.wrap_i64]; omega) | (simp [go_sem, Act.eval, hq1, g1', g2', hlE]; omega)
        · refine RStep.on 2 false false (by simp) rfl (by decide +kernel) rfl (fun h => absurd rfl h) (fun _ => ?_); intro a' W hfr hdep hG; have d1 : a'.eval (.tmp 76) = .bool true := hdep 19 (by decide +kernel); have d2 : a'.eval (.tmp 81) = .bool true := hdep 24 (by decide +kernel); exact F_pick rfl (b := true) d1 (by simpa using d2) trivial (RBel.refl _ _)
        · refine RStep.run (by simp) rfl ?_; intro a' W hfr hdep hG; have d1 : a'.eval (.tmp 59) = .bool false := hdep 2 (by decide +kernel); have d2 : a'.eval (.tmp 82) = .bool true := hdep 25 (by decide +kernel); exact F_pick rfl (b := false) d1 (by simpa using d2) trivial (RBel.refl _ _)
        · refine RStep.run (by simp) rfl ?_; intro a' W hfr hdep hG; have d1 : a'.eval (.tmp 83) = .bool true := hdep 26 (by decide +kernel); exact F_move rfl d1 trivial (RBel.refl _ _)
        · refine RStep.on 27 true true (by simp) rfl (by decide +kernel) rfl (fun h => absurd rfl h) (fun _ => ?_); intro a' W hfr hdep hG; have d1 : a'.eval (.tmp 2) = .int .u32 (eh : Int) := hfr 2 (by decide +kernel); exact F_move rfl d1 trivial (RBel.refl _ _)
        · refine RStep.on 27 true true (by simp) rfl (by decide +kernel) rfl (fun h => absurd rfl h) (fun _ => ?_); intro a' W hfr hdep hG; have d1 : a'.eval (.tmp 9) = .pointer (some ⟨ib, 0, none⟩) := hfr 9 (by decide +kernel); refine F_val (v := .pointer (some ⟨ib, 3, none⟩)) ?_ trivial (RBel.refl _ _); simp only [execOp, d1]; first | (simp [go_sem, Act.eval, hq1, g1', g2', hlE]; done) | (simp [go_sem, Act.eval, hq1, g1', g2', hlE]; rw [IntKind.wrap_i64]; omega) | (simp [go_sem, Act.eval, hq1, g1', g2', hlE]; omega)
        · refine RStep.on 27 true true (by simp) rfl (by decide +kernel) rfl (fun h => absurd rfl h) (fun _ => ?_); intro a' W hfr hdep hG; have d1 : a'.eval (.tmp 86) = .pointer (some ⟨ib, 3, none⟩) := hdep 29 (by decide +kernel); exact F_load rfl d1 (load_u32R ((HE.out.2.1 W hG).1.cell 3)) trivial (RBel.refl _ _)
        · refine RStep.on 27 true true (by simp) rfl (by decide +kernel) rfl (fun h => absurd rfl h) (fun _ => ?_); intro a' W hfr hdep hG; have d1 : a'.eval (.tmp 85) = .int .u32 (eh : Int) := hdep 28 (by decide +kernel); have d2 : a'.eval (.tmp 87) = .int .u32 (hd : Int) := hdep 30 (by decide +kernel); refine F_val (v := .bool false) ?_ trivial (RBel.refl _ _); simp only [execOp, d1, d2]; first | (simp [go_sem, Act.eval, hq1, g1', g2', hlE]; done) | (simp [go_sem, Act.eval, hq1, g1', g2', hlE]; rw [IntKind.wrap_i64]; omega) | (simp [go_sem, Act.eval, hq1, g1', g2', hlE]; omega)
        · refine RStep.on 27 true true (by simp) rfl (by decide +kernel) rfl (fun h => absurd rfl h) (fun _ => ?_); intro a' W hfr hdep hG; have d1 : a'.eval (.tmp 88) = .bool false := hdep 31 (by decide +kernel); exact F_move rfl d1 trivial (RBel.refl _ _)
        · refine RStep.on 32 false false (by simp) rfl (by decide +kernel) rfl (fun h => absurd rfl h) (fun _ => ?_); intro a' W hfr hdep hG; have d1 : a'.eval (.tmp 16) = .int .i64 0 := hfr 16 (by decide +kernel); exact F_move rfl d1 trivial (RBel.refl _ _)
        · refine RStep.on 32 false false (by simp) rfl (by decide +kernel) rfl (fun h => absurd rfl h) (fun _ => ?_); intro a' W hfr hdep hG; have d1 : a'.eval (.tmp 90) = .int .i64 0 := hdep 33 (by decide +kernel); refine F_val (v := .bool true) ?_ trivial (RBel.refl _ _); simp only [execOp, d1]; first | (simp [go_sem, Act.eval, hq1, g1', g2', hlE]; done) | (simp [go_sem, Act.eval, hq1, g1', g2', hlE]; rw [IntKind.wrap_i64]; omega) | (simp [go_sem, Act.eval, hq1, g1', g2', hlE]; omega)
        · refine RStep.on 27 true true (by simp) rfl (by decide +kernel) rfl (fun h => absurd rfl h) (fun _ => ?_); intro a' W hfr hdep hG; have d1 : a'.eval (.tmp 89) = .bool false := hdep 32 (by decide +kernel); have d2 : a'.eval (.tmp 91) = .bool true := hdep 34 (by decide +kernel); exact F_pick rfl (b := false) d1 (by simpa using d2) trivial (RBel.refl _ _)
        · refine RStep.run (by simp) rfl ?_; intro a' W hfr hdep hG; have d1 : a'.eval (.tmp 84) = .bool true := hdep 27 (by decide +kernel); have d2 : a'.eval (.tmp 92) = .bool true := hdep 35 (by decide +kernel); exact F_pick rfl (b := true) d1 (by simpa using d2) trivial (RBel.refl _ _)
        · refine RStep.run (by simp) rfl ?_; intro a' W hfr hdep hG; have d1 : a'.eval (.tmp 93) = .bool true := hdep 36 (by decide +kernel); exact F_move rfl d1 trivial (RBel.refl _ _)
        · refine RStep.on 37 true true (by simp) rfl (by decide +kernel) rfl (fun h => absurd rfl h) (fun _ => ?_); intro a' W hfr hdep hG; refine F_call rfl Tryd.func12 rfl (by decide) (args := #[]) (by simp) (works_any W) ?_; rintro e w' ⟨rfl, hs'⟩; exact ⟨rfl, trivial, fun h => h.trans (hs'.mono h.size)⟩
        · refine RStep.run (by simp) rfl ?_; intro a' W hfr hdep hG; have d1 : a'.eval (.tmp 94) = .bool true := hdep 37 (by decide +kernel); have d2 : a'.eval (.tmp 95) = .bool true := hdep 38 (by decide +kernel); exact F_pick rfl (b := true) d1 (by simpa using d2) trivial (RBel.refl _ _)
        · refine RStep.run (by simp) rfl ?_; intro a' W hfr hdep hG; have d1 : a'.eval (.tmp 96) = .bool true := hdep 39 (by decide +kernel); exact F_assign rfl d1 trivial (RBel.refl _ _)
        intro a' wz hdd hsz hfr hG hsl
        have e := act_of_slots (fun i => ([.int .i64 0, .bool false, .bool false, .pointer (some ⟨jc, 3, none⟩), .int .u32 (eh : Int), .int .u32 (eh : Int), .bool true, .bool true, .int .u32 (eh : Int), .int .i64 (eh : Int), .agg #[.bool pl, .int .i64 (ck : Int), .int .i64 (dr : Int), .int .u32 (hd : Int), .slice A4 m4 f4, .int .u32 (tb : Int), .int .u32 (ln : Int), .slice A7 m7 f7], .int .i64 ((dr : Int) + 96), .pointer (some ⟨xb, 3, none⟩), .slice A6 n6 c6, .int .i64 (n6 : Int), .int .i64 (40 * (n6 : Int)), .int .i64 ((dr : Int) + 96 + 40 * (n6 : Int)), .bool true, .bool true, .bool true, .int .u32 (eh : Int), .int .i64 (eh : Int), .slice A3 n3 c3, .int .i64 (n3 : Int), .bool true, .bool true, .bool true, .bool true, .int .u32 (eh : Int), .pointer (some ⟨ib, 3, none⟩), .int .u32 (hd : Int), .bool false, .bool false, .int .i64 0, .bool true, .bool true, .bool true, .bool true, .bool true, .bool true, .bool true] : List Value).getD i undef) (by show dstsOk _ 97 = true; decide +kernel) hdd hsz hfr (fun i hi => (hsl i hi).1)
        have HZ := Lib.hid hG
        clear hdd hsz hfr hsl hG
        have hrg : List.range 41 = [0, 1, 2, 3, 4, 5, 6, 7, 8, 9, 10, 11, 12, 13, 14, 15, 16, 17, 18, 19, 20, 21, 22, 23, 24, 25, 26, 27, 28, 29, 30, 31, 32, 33, 34, 35, 36, 37, 38, 39, 40] := rfl
        simp only [layAll, List.map_cons, List.map_nil, List.size_toArray, List.length_cons, List.length_nil, Nat.reduceAdd, hrg, List.zip_cons_cons, List.zip_nil_left, List.foldl_cons, List.foldl_nil, List.getD_cons_zero, List.getD_cons_succ, Act.put, List.setIfInBounds_toArray, List.set_cons_zero, List.set_cons_succ] at e
        subst e
        clear hrg
        apply_assumption
        (repeat (rename_i x; clear x))
        go_wp2_with fail
        go_ret
        exact ⟨rfl, HE.out.1.trans (HZ.out.mono HE.out.1.size)⟩
      · have hq1 : ((eh : Int) != hd) = true := by simp; omega
        go_upto_region 12 with fail
        refine wp_region_facts (fun i => ([.int .i64 0, .bool false, .bool false, .pointer (some ⟨jc, 3, none⟩), .int .u32 (eh : Int), .int .u32 (eh : Int), .bool true, .bool true, .int .u32 (eh : Int), .int .i64 (eh : Int), .agg #[.bool pl, .int .i64 (ck : Int), .int .i64 (dr : Int), .int .u32 (hd : Int), .slice A4 m4 f4, .int .u32 (tb : Int), .int .u32 (ln : Int), .slice A7 m7 f7], .int .i64 ((dr : Int) + 96), .pointer (some ⟨xb, 3, none⟩), .slice A6 n6 c6, .int .i64 (n6 : Int), .int .i64 (40 * (n6 : Int)), .int .i64 ((dr : Int) + 96 + 40 * (n6 : Int)), .bool true, .bool true, .bool true, .int .u32 (eh : Int), .int .i64 (eh : Int), .slice A3 n3 c3, .int .i64 (n3 : Int), .bool true, .bool true, .bool true, .bool true, .int .u32 (eh : Int), .pointer (some ⟨ib, 3, none⟩), .int .u32 (hd : Int), .bool true, .bool true, undef, undef, .bool true, .bool true, .bool true, .bool true, .bool true, .bool true] : List Value).getD i undef) (fun _ _ => True) (Below w9s.heap.size w9s) (RBel w9s)
          rfl (fun _ => RBel.refl _ _) (fun _ _ h k => k h) (fun _ _ _ _ _ => trivial) (by show dstsOk _ 97 = true; decide +kernel) (by decide +kernel) (Below.refl w9s.heap.size w9s).drew ⟨?_, ?_, ?_, ?_, ?_, ?_, ?_, ?_, ?_, ?_, ?_, ?_, ?_, ?_, ?_, ?_, ?_, ?_, ?_, ?_, ?_, ?_, ?_, ?_, ?_, ?_, ?_, ?_, ?_, ?_, ?_, ?_, ?_, ?_, ?_, ?_, ?_, ?_, ?_, ?_, ?_, trivial⟩ ?_
        · refine RStep.run (by simp) rfl ?_; intro a' W hfr hdep hG; have d1 : a'.eval (.tmp 16) = .int .i64 0 := hfr 16 (by decide +kernel); exact F_move rfl d1 trivial (RBel.refl _ _)
        · refine RStep.run (by simp) rfl ?_; intro a' W hfr hdep hG; have d1 : a'.eval (.tmp 57) = .int .i64 0 := hdep 0 (by decide +kernel); refine F_val (v := .bool false) ?_ trivial (RBel.refl _ _); simp only [execOp, d1]; first | (simp [go_sem, Act.eval, hq1, g1', g2', hlE]; done) | (simp [go_sem, Act.eval, hq1, g1', g2', hlE]; rw [IntKind.wrap_i64]; omega) | (simp [go_sem, Act.eval, hq1, g1', g2', hlE]; omega)
        · refine RStep.run (by simp) rfl ?_; intro a' W hfr hdep hG; have d1 : a'.eval (.tmp 58) = .bool false := hdep 1 (by decide +kernel); exact F_move rfl d1 trivial (RBel.refl _ _)
        · refine RStep.on 2 false false (by simp) rfl (by decide +kernel) rfl (fun h => absurd rfl h) (fun _ => ?_); intro a' W hfr hdep hG; have d1 : a'.eval (.tmp 15) = .pointer (some ⟨jc, 0, none⟩) := hfr 15 (by decide +kernel); refine F_val (v := .pointer (some ⟨jc, 3, none⟩)) ?_ trivial (RBel.refl _ _); simp only [execOp, d1]; first | (simp [go_sem, Act.eval, hq1, g1', g2', hlE]; done) | (simp [go_sem, Act.eval, hq1, g1', g2', hlE]; rw [IntKind.wrap_i64]; omega) | (simp [go_sem, Act.eval, hq1, g1', g2', hlE]; omega)
        · refine RStep.on 2 false false (by simp) rfl (by decide +kernel) rfl (fun h => absurd rfl h) (fun _ => ?_); intro a' W hfr hdep hG; have d1 : a'.eval (.tmp 60) = .pointer (some ⟨jc, 3, none⟩) := hdep 3 (by decide +kernel); exact F_load rfl d1 (load_u32R (HE.out.2.1 W hG).2.1) trivial (RBel.refl _ _)
        · refine RStep.on 2 false false (by simp) rfl (by decide +kernel) rfl (fun h => absurd rfl h) (fun _ => ?_); intro a' W hfr hdep hG; have d1 : a'.eval (.tmp 2) = .int .u32 (eh : Int) := hfr 2 (by decide +kernel); exact F_move rfl d1 trivial (RBel.refl _ _)
        · refine RStep.on 2 false false (by simp) rfl (by decide +kernel) rfl (fun h => absurd rfl h) (fun _ => ?_); intro a' W hfr hdep hG; have d1 : a'.eval (.tmp 61) = .int .u32 (eh : Int) := hdep 4 (by decide +kernel); have d2 : a'.eval (.tmp 62) = .int .u32 (eh : Int) := hdep 5 (by decide +kernel); refine F_val (v := .bool true) ?_ trivial (RBel.refl _ _); simp only [execOp, d1, d2]; first | (simp [go_sem, Act.eval, hq1, g1', g2', hlE]; done) | (simp [go_sem, Act.eval, hq1, g1', g2', hlE]; rw [IntKind.wrap_i64]; omega) | (simp [go_sem, Act.eval, hq1, g1', g2', hlE]; omega)
        · refine RStep.on 2 false false (by simp) rfl (by decide +kernel) rfl (fun h => absurd rfl h) (fun _ => ?_); intro a' W hfr hdep hG; have d1 : a'.eval (.tmp 63) = .bool true := hdep 6 (by decide +kernel); exact F_move rfl d1 trivial (RBel.refl _ _)
        · refine RStep.on 7 true true (by simp) rfl (by decide +kernel) rfl (fun h => absurd rfl h) (fun _ => ?_); intro a' W hfr hdep hG; have d1 : a'.eval (.tmp 2) = .int .u32 (eh : Int) := hfr 2 (by decide +kernel); exact F_move rfl d1 trivial (RBel.refl _ _)
        · refine RStep.on 7 true true (by simp) rfl (by decide +kernel) rfl (fun h => absurd rfl h) (fun _ => ?_); intro a' W hfr hdep hG; have d1 : a'.eval (.tmp 65) = .int .u32 (eh : Int) := hdep 8 (by decide +kernel); refine F_val (v := .int .i64 (eh : Int)) ?_ trivial (RBel.refl _ _); simp only [execOp, d1]; first | (simp [go_sem, Act.eval, hq1, g1', g2', hlE]; done) | (simp [go_sem, Act.eval, hq1, g1', g2', hlE]; rw [IntKind.wrap_i64]; omega) | (simp [go_sem, Act.eval, hq1, g1', g2', hlE]; omega)
        · refine RStep.on 7 true true (by simp) rfl (by decide +kernel) rfl (fun h => absurd rfl h) (fun _ => ?_); intro a' W hfr hdep hG; have d1 : a'.eval (.tmp 9) = .pointer (some ⟨ib, 0, none⟩) := hfr 9 (by decide +kernel); exact F_load rfl d1 (load_img (HE.out.2.1 W hG).1) trivial (RBel.refl _ _)
        · refine RStep.on 7 true true (by simp) rfl (by decide +kernel) rfl (fun h => absurd rfl h) (fun _ => ?_); intro a' W hfr hdep hG; have d1 : a'.eval (.tmp 67) = .agg #[.bool pl, .int .i64 (ck : Int), .int .i64 (dr : Int), .int .u32 (hd : Int), .slice A4 m4 f4, .int .u32 (tb : Int), .int .u32 (ln : Int), .slice A7 m7 f7] := hdep 10 (by decide +kernel); refine F_call rfl Tryd.func22 rfl (by decide) (args := #[.agg #[.bool pl, .int .i64 (ck : Int), .int .i64 (dr : Int), .int .u32 (hd : Int), .slice A4 m4 f4, .int .u32 (tb : Int), .int .u32 (ln : Int), .slice A7 m7 f7]]) (by simp only [List.map_toArray, List.map_cons, List.map_nil, d1] <;> rfl) (HL.out.2.2.2.1 W) ?_; rintro e w' ⟨rfl, hs'⟩; exact ⟨rfl, trivial, fun h => h.trans (hs'.mono h.size)⟩
        · refine RStep.on 7 true true (by simp) rfl (by decide +kernel) rfl (fun h => absurd rfl h) (fun _ => ?_); intro a' W hfr hdep hG; have d1 : a'.eval (.tmp 7) = .pointer (some ⟨xb, 0, none⟩) := hfr 7 (by decide +kernel); refine F_val (v := .pointer (some ⟨xb, 3, none⟩)) ?_ trivial (RBel.refl _ _); simp only [execOp, d1]; first | (simp [go_sem, Act.eval, hq1, g1', g2', hlE]; done) | (simp [go_sem, Act.eval, hq1, g1', g2', hlE]; rw [IntKind.wrap_i64]; omega) | (simp [go_sem, Act.eval, hq1, g1', g2', hlE]; omega)
        · refine RStep.on 7 true true (by simp) rfl (by decide +kernel) rfl (fun h => absurd rfl h) (fun _ => ?_); intro a' W hfr hdep hG; have d1 : a'.eval (.tmp 69) = .pointer (some ⟨xb, 3, none⟩) := hdep 12 (by decide +kernel); exact F_load rfl d1 (load_bytessR (HE.out.2.1 W hG).2.2) trivial (RBel.refl _ _)
        · refine RStep.on 7 true true (by simp) rfl (by decide +kernel) rfl (fun h => absurd rfl h) (fun _ => ?_); intro a' W hfr hdep hG; have d1 : a'.eval (.tmp 70) = .slice A6 n6 c6 := hdep 13 (by decide +kernel); exact F_lenL rfl d1 trivial (RBel.refl _ _)
        · refine RStep.on 7 true true (by simp) rfl (by decide +kernel) rfl (fun h => absurd rfl h) (fun _ => ?_); intro a' W hfr hdep hG; have d2 : a'.eval (.tmp 71) = .int .i64 (n6 : Int) := hdep 14 (by decide +kernel); refine F_val (v := .int .i64 (40 * (n6 : Int))) ?_ trivial (RBel.refl _ _); simp only [execOp, d2]; first | (simp [go_sem, Act.eval, hq1, g1', g2', hlE]; done) | (simp [go_sem, Act.eval, hq1, g1', g2', hlE]; rw [IntKind.wrap_i64]; omega) | (simp [go_sem, Act.eval, hq1, g1', g2', hlE]; omega)
        · refine RStep.on 7 true true (by simp) rfl (by decide +kernel) rfl (fun h => absurd rfl h) (fun _ => ?_); intro a' W hfr hdep hG; have d1 : a'.eval (.tmp 68) = .int .i64 ((dr : Int) + 96) := hdep 11 (by decide +kernel); have d2 : a'.eval (.tmp 72) = .int .i64 (40 * (n6 : Int)) := hdep 15 (by decide +kernel); refine F_val (v := .int .i64 ((dr : Int) + 96 + 40 * (n6 : Int))) ?_ trivial (RBel.refl _ _); simp only [execOp, d1, d2]; first | (simp [go_sem, Act.eval, hq1, g1', g2', hlE]; done) | (simp [go_sem, Act.eval, hq1, g1', g2', hlE]; rw [IntKind.wrap_i64]; omega) | (simp [go_sem, Act.eval, hq1, g1', g2', hlE]; omega)
        · refine RStep.on 7 true true (by simp) rfl (by decide +kernel) rfl (fun h => absurd rfl h) (fun _ => ?_); intro a' W hfr hdep hG; have d1 : a'.eval (.tmp 66) = .int .i64 (eh : Int) := hdep 9 (by decide +kernel); have d2 : a'.eval (.tmp 73) = .int .i64 ((dr : Int) + 96 + 40 * (n6 : Int)) := hdep 16 (by decide +kernel); refine F_val (v := .bool true) ?_ trivial (RBel.refl _ _); simp only [execOp, d1, d2]; first | (simp [go_sem, Act.eval, hq1, g1', g2', hlE]; done) | (simp [go_sem, Act.eval, hq1, g1', g2', hlE]; rw [IntKind.wrap_i64]; omega) | (simp [go_sem, Act.eval, hq1, g1', g2', hlE]; omega)
        · refine RStep.on 2 false false (by simp) rfl (by decide +kernel) rfl (fun h => absurd rfl h) (fun _ => ?_); intro a' W hfr hdep hG; have d1 : a'.eval (.tmp 64) = .bool true := hdep 7 (by decide +kernel); have d2 : a'.eval (.tmp 74) = .bool true := hdep 17 (by decide +kernel); exact F_pick rfl (b := true) d1 (by simpa using d2) trivial (RBel.refl _ _)
        · refine RStep.on 2 false false (by simp) rfl (by decide +kernel) rfl (fun h => absurd rfl h) (fun _ => ?_); intro a' W hfr hdep hG; have d1 : a'.eval (.tmp 75) = .bool true := hdep 18 (by decide +kernel); exact F_move rfl d1 trivial (RBel.refl _ _)
        · refine RStep.on 19 true true (by simp) rfl (by decide +kernel) rfl (fun h => absurd rfl h) (fun _ => ?_); intro a' W hfr hdep hG; have d1 : a'.eval (.tmp 2) = .int .u32 (eh : Int) := hfr 2 (by decide +kernel); exact F_move rfl d1 trivial (RBel.refl _ _)
        · refine RStep.on 19 true true (by simp) rfl (by decide +kernel) rfl (fun h => absurd rfl h) (fun _ => ?_); intro a' W hfr hdep hG; have d1 : a'.eval (.tmp 77) = .int .u32 (eh : Int) := hdep 20 (by decide +kernel); refine F_val (v := .int .i64 (eh : Int)) ?_ trivial (RBel.refl _ _); simp only [execOp, d1]; first | (simp [go_sem, Act.eval, hq1, g1', g2', hlE]; done) | (simp [go_sem, Act.eval, hq1, g1', g2', hlE]; rw [IntKind.wrap_i64]; omega) | (simp [go_sem, Act.eval, hq1, g1', g2', hlE]; omega)
        · refine RStep.on 19 true true (by simp) rfl (by decide +kernel) rfl (fun h => absurd rfl h) (fun _ => ?_); intro a' W hfr hdep hG; have d1 : a'.eval (.tmp 8) = .slice A3 n3 c3 := hfr 8 (by decide +kernel); exact F_move rfl d1 trivial (RBel.refl _ _)
        · refine RStep.on 19 true true (by simp) rfl (by decide +kernel) rfl (fun h => absurd rfl h) (fun _ => ?_); intro a' W hfr hdep hG; have d1 : a'.eval (.tmp 79) = .slice A3 n3 c3 := hdep 22 (by decide +kernel); exact F_len rfl d1 trivial (RBel.refl _ _)
        · refine RStep.on 19 true true (by simp) rfl (by decide +kernel) rfl (fun h => absurd rfl h) (fun _ => ?_); intro a' W hfr hdep hG; have d1 : a'.eval (.tmp 78) = .int .i64 (eh : Int) := hdep 21 (by decide +kernel); have d2 : a'.eval (.tmp 80) = .int .i64 (n3 : Int) := hdep 23 (by decide +kernel); refine F_val (v := .bool true) ?_ trivial (RBel.refl _ _); simp only [execOp, d1, d2]; first | (simp [go_sem, Act.eval, hq1, g1', g2', hlE]; done) | (simp [go_sem, Act.eval, hq1, g1', g2', hlE]; rw [IntKind.wrap_i64]; omega) | (simp [go_sem, Act.eval, hq1, g1', g2', hlE]; omega)
        · refine RStep.on 2 false false (by simp) rfl (by decide +kernel) rfl (fun h => absurd rfl h) (fun _ => ?_); intro a' W hfr hdep hG; have d1 : a'.eval (.tmp 76) = .bool true := hdep 19 (by decide +kernel); have d2 : a'.eval (.tmp 81) = .bool true := hdep 24 (by decide +kernel); exact F_pick rfl (b := true) d1 (by simpa using d2) trivial (RBel.refl _ _)
        · refine RStep.run (by simp) rfl ?_; intro a' W hfr hdep hG; have d1 : a'.eval (.tmp 59) = .bool false := hdep 2 (by decide +kernel); have d2 : a'.eval (.tmp 82) = .bool true := hdep 25 (by decide +kernel); exact F_pick rfl (b := false) d1 (by simpa using d2) trivial (RBel.refl _ _)
        · refine RStep.run (by simp) rfl ?_; intro a' W hfr hdep hG; have d1 : a'.eval (.tmp 83) = .bool true := hdep 26 (by decide +kernel); exact F_move rfl d1 trivial (RBel.refl _ _)
        · refine RStep.on 27 true true (by simp) rfl (by decide +kernel) rfl (fun h => absurd rfl h) (fun _ => ?_); intro a' W hfr hdep hG; have d1 : a'.eval (.tmp 2) = .int .u32 (eh : Int) := hfr 2 (by decide +kernel); exact F_move rfl d1 trivial (RBel.refl _ _)
        · refine RStep.on 27 true true (by simp) rfl (by decide +kernel) rfl (fun h => absurd rfl h) (fun _ => ?_); intro a' W hfr hdep hG; have d1 : a'.eval (.tmp 9) = .pointer (some ⟨ib, 0, none⟩) := hfr 9 (by decide +kernel); refine F_val (v := .pointer (some ⟨ib, 3, none⟩)) ?_ trivial (RBel.refl _ _); simp only [execOp, d1]; first | (simp [go_sem, Act.eval, hq1, g1', g2', hlE]; done) | (simp [go_sem, Act.eval, hq1, g1', g2', hlE]; rw [IntKind.wrap_i64]; omega) | (simp [go_sem, Act.eval, hq1, g1', g2', hlE]; omega)
        · refine RStep.on 27 true true (by simp) rfl (by decide +kernel) rfl (fun h => absurd rfl h) (fun _ => ?_); intro a' W hfr hdep hG; have d1 : a'.eval (.tmp 86) = .pointer (some ⟨ib, 3, none⟩) := hdep 29 (by decide +kernel); exact F_load rfl d1 (load_u32R ((HE.out.2.1 W hG).1.cell 3)) trivial (RBel.refl _ _)
        · refine RStep.on 27 true true (by simp) rfl (by decide +kernel) rfl (fun h => absurd rfl h) (fun _ => ?_); intro a' W hfr hdep hG; have d1 : a'.eval (.tmp 85) = .int .u32 (eh : Int) := hdep 28 (by decide +kernel); have d2 : a'.eval (.tmp 87) = .int .u32 (hd : Int) := hdep 30 (by decide +kernel); refine F_val (v := .bool true) ?_ trivial (RBel.refl _ _); simp only [execOp, d1, d2]; first | (simp [go_sem, Act.eval, hq1, g1', g2', hlE]; done) | (simp [go_sem, Act.eval, hq1, g1', g2', hlE]; rw [IntKind.wrap_i64]; omega) | (simp [go_sem, Act.eval, hq1, g1', g2', hlE]; omega)
        · refine RStep.on 27 true true (by simp) rfl (by decide +kernel) rfl (fun h => absurd rfl h) (fun _ => ?_); intro a' W hfr hdep hG; have d1 : a'.eval (.tmp 88) = .bool true := hdep 31 (by decide +kernel); exact F_move rfl d1 trivial (RBel.refl _ _)
        · exact ⟨fun e => absurd e (by simp), .inl ⟨32, false, rfl, by decide +kernel, (by show (.bool true : Value) ≠ .bool false; intro h; cases h), rfl, fun _ => trivial⟩⟩
        · exact ⟨fun e => absurd e (by simp), .inl ⟨32, false, rfl, by decide +kernel, (by show (.bool true : Value) ≠ .bool false; intro h; cases h), rfl, fun _ => trivial⟩⟩
        · refine RStep.on 27 true true (by simp) rfl (by decide +kernel) rfl (fun h => absurd rfl h) (fun _ => ?_); intro a' W hfr hdep hG; have d1 : a'.eval (.tmp 89) = .bool true := hdep 32 (by decide +kernel); exact F_pick rfl (b := true) d1 (by rfl) trivial (RBel.refl _ _)
        · refine RStep.run (by simp) rfl ?_; intro a' W hfr hdep hG; have d1 : a'.eval (.tmp 84) = .bool true := hdep 27 (by decide +kernel); have d2 : a'.eval (.tmp 92) = .bool true := hdep 35 (by decide +kernel); exact F_pick rfl (b := true) d1 (by simpa using d2) trivial (RBel.refl _ _)
        · refine RStep.run (by simp) rfl ?_; intro a' W hfr hdep hG; have d1 : a'.eval (.tmp 93) = .bool true := hdep 36 (by decide +kernel); exact F_move rfl d1 trivial (RBel.refl _ _)
        · refine RStep.on 37 true true (by simp) rfl (by decide +kernel) rfl (fun h => absurd rfl h) (fun _ => ?_); intro a' W hfr hdep hG; refine F_call rfl Tryd.func12 rfl (by decide) (args := #[]) (by simp) (works_any W) ?_; rintro e w' ⟨rfl, hs'⟩; exact ⟨rfl, trivial, fun h => h.trans (hs'.mono h.size)⟩
        · refine RStep.run (by simp) rfl ?_; intro a' W hfr hdep hG; have d1 : a'.eval (.tmp 94) = .bool true := hdep 37 (by decide +kernel); have d2 : a'.eval (.tmp 95) = .bool true := hdep 38 (by decide +kernel); exact F_pick rfl (b := true) d1 (by simpa using d2) trivial (RBel.refl _ _)
        · refine RStep.run (by simp) rfl ?_; intro a' W hfr hdep hG; have d1 : a'.eval (.tmp 96) = .bool true := hdep 39 (by decide +kernel); exact F_assign rfl d1 trivial (RBel.refl _ _)
        intro a' wz hdd hsz hfr hG hsl
        have e := act_of_slots (fun i => ([.int .i64 0, .bool false, .bool false, .pointer (some ⟨jc, 3, none⟩), .int .u32 (eh : Int), .int .u32 (eh : Int), .bool true, .bool true, .int .u32 (eh : Int), .int .i64 (eh : Int), .agg #[.bool pl, .int .i64 (ck : Int), .int .i64 (dr : Int), .int .u32 (hd : Int), .slice A4 m4 f4, .int .u32 (tb : Int), .int .u32 (ln : Int), .slice A7 m7 f7], .int .i64 ((dr : Int) + 96), .pointer (some ⟨xb, 3, none⟩), .slice A6 n6 c6, .int .i64 (n6 : Int), .int .i64 (40 * (n6 : Int)), .int .i64 ((dr : Int) + 96 + 40 * (n6 : Int)), .bool true, .bool true, .bool true, .int .u32 (eh : Int), .int .i64 (eh : Int), .slice A3 n3 c3, .int .i64 (n3 : Int), .bool true, .bool true, .bool true, .bool true, .int .u32 (eh : Int), .pointer (some ⟨ib, 3, none⟩), .int .u32 (hd : Int), .bool true, .bool true, undef, undef, .bool true, .bool true, .bool true, .bool true, .bool true, .bool true] : List Value).getD i undef) (by show dstsOk _ 97 = true; decide +kernel) hdd hsz hfr (fun i hi => (hsl i hi).1)
        have HZ := Lib.hid hG
        clear hdd hsz hfr hsl hG
        have hrg : List.range 41 = [0, 1, 2, 3, 4, 5, 6, 7, 8, 9, 10, 11, 12, 13, 14, 15, 16, 17, 18, 19, 20, 21, 22, 23, 24, 25, 26, 27, 28, 29, 30, 31, 32, 33, 34, 35, 36, 37, 38, 39, 40] := rfl
        simp only [layAll, List.map_cons, List.map_nil, List.size_toArray, List.length_cons, List.length_nil, Nat.reduceAdd, hrg, List.zip_cons_cons, List.zip_nil_left, List.foldl_cons, List.foldl_nil, List.getD_cons_zero, List.getD_cons_succ, Act.put, List.setIfInBounds_toArray, List.set_cons_zero, List.set_cons_succ] at e
        subst e
        clear hrg
        apply_assumption
        (repeat (rename_i x; clear x))
        go_wp2_with fail
        go_ret
        exact ⟨rfl, HE.out.1.trans (HZ.out.mono HE.out.1.size)⟩
    · have he0 : ((erE : Int) != 0) = true := by simp; omega
      have hq1 : ((hh : Int) != hd) = true := by have := HC.out.1; simp; omega
      go_upto_region 12 with fail
      refine wp_region_facts (fun i => ([.int .i64 (erE : Int), .bool true, .bool true, undef, undef, undef, undef, undef, undef, undef, undef, undef, undef, undef, undef, undef, undef, undef, undef, undef, undef, undef, undef, undef, undef, undef, .bool true, .bool true, .int .u32 (hh : Int), .pointer (some ⟨ib, 3, none⟩), .int .u32 (hd : Int), .bool true, .bool true, undef, undef, .bool true, .bool true, .bool true, .bool true, .bool true, .bool true] : List Value).getD i undef) (fun _ _ => True) (Below w9s.heap.size w9s) (RBel w9s)
        rfl (fun _ => RBel.refl _ _) (fun _ _ h k => k h) (fun _ _ _ _ _ => trivial) (by show dstsOk _ 97 = true; decide +kernel) (by decide +kernel) (Below.refl w9s.heap.size w9s).drew ⟨?_, ?_, ?_, ?_, ?_, ?_, ?_, ?_, ?_, ?_, ?_, ?_, ?_, ?_, ?_, ?_, ?_, ?_, ?_, ?_, ?_, ?_, ?_, ?_, ?_, ?_, ?_, ?_, ?_, ?_, ?_, ?_, ?_, ?_, ?_, ?_, ?_, ?_, ?_, ?_, ?_, trivial⟩ ?_
      · refine RStep.run (by simp) rfl ?_; intro a' W hfr hdep hG; have d1 : a'.eval (.tmp 16) = .int .i64 (erE : Int) := hfr 16 (by decide +kernel); exact F_move rfl d1 trivial (RBel.refl _ _)
      · refine RStep.run (by simp) rfl ?_; intro a' W hfr hdep hG; have d1 : a'.eval (.tmp 57) = .int .i64 (erE : Int) := hdep 0 (by decide +kernel); refine F_val (v := .bool true) ?_ trivial (RBel.refl _ _); simp only [execOp, d1]; first | (simp [go_sem, Act.eval, hq1, he0]; done) | (simp [go_sem, Act.eval, hq1, he0]; rw [IntKind.wrap_i64]; omega) | (simp [go_sem, Act.eval, hq1, he0]; omega)
      · refine RStep.run (by simp) rfl ?_; intro a' W hfr hdep hG; have d1 : a'.eval (.tmp 58) = .bool true := hdep 1 (by decide +kernel); exact F_move rfl d1 trivial (RBel.refl _ _)
      · exact ⟨fun e => absurd e (by simp), .inl ⟨2, false, rfl, by decide +kernel, (by show (.bool true : Value) ≠ .bool false; intro h; cases h), rfl, fun _ => trivial⟩⟩
      · exact ⟨fun e => absurd e (by simp), .inl ⟨2, false, rfl, by decide +kernel, (by show (.bool true : Value) ≠ .bool false; intro h; cases h), rfl, fun _ => trivial⟩⟩
      · exact ⟨fun e => absurd e (by simp), .inl ⟨2, false, rfl, by decide +kernel, (by show (.bool true : Value) ≠ .bool false; intro h; cases h), rfl, fun _ => trivial⟩⟩
      · exact ⟨fun e => absurd e (by simp), .inl ⟨2, false, rfl, by decide +kernel, (by show (.bool true : Value) ≠ .bool false; intro h; cases h), rfl, fun _ => trivial⟩⟩
      · exact ⟨fun e => absurd e (by simp), .inl ⟨2, false, rfl, by decide +kernel, (by show (.bool true : Value) ≠ .bool false; intro h; cases h), rfl, fun _ => trivial⟩⟩
      · exact ⟨fun e => absurd e (by simp), .inl ⟨7, true, rfl, by decide +kernel, (by show (undef : Value) ≠ .bool true; intro h; cases h), rfl, fun _ => trivial⟩⟩
      · exact ⟨fun e => absurd e (by simp), .inl ⟨7, true, rfl, by decide +kernel, (by show (undef : Value) ≠ .bool true; intro h; cases h), rfl, fun _ => trivial⟩⟩
      · exact ⟨fun e => absurd e (by simp), .inl ⟨7, true, rfl, by decide +kernel, (by show (undef : Value) ≠ .bool true; intro h; cases h), rfl, fun _ => trivial⟩⟩
      · exact ⟨fun e => absurd e (by simp), .inl ⟨7, true, rfl, by decide +kernel, (by show (undef : Value) ≠ .bool true; intro h; cases h), rfl, fun _ => trivial⟩⟩
      · exact ⟨fun e => absurd e (by simp), .inl ⟨7, true, rfl, by decide +kernel, (by show (undef : Value) ≠ .bool true; intro h; cases h), rfl, fun _ => trivial⟩⟩
      · exact ⟨fun e => absurd e (by simp), .inl ⟨7, true, rfl, by decide +kernel, (by show (undef : Value) ≠ .bool true; intro h; cases h), rfl, fun _ => trivial⟩⟩
      · exact ⟨fun e => absurd e (by simp), .inl ⟨7, true, rfl, by decide +kernel, (by show (undef : Value) ≠ .bool true; intro h; cases h), rfl, fun _ => trivial⟩⟩
      · exact ⟨fun e => absurd e (by simp), .inl ⟨7, true, rfl, by decide +kernel, (by show (undef : Value) ≠ .bool true; intro h; cases h), rfl, fun _ => trivial⟩⟩
      · exact ⟨fun e => absurd e (by simp), .inl ⟨7, true, rfl, by decide +kernel, (by show (undef : Value) ≠ .bool true; intro h; cases h), rfl, fun _ => trivial⟩⟩
      · exact ⟨fun e => absurd e (by simp), .inl ⟨7, true, rfl, by decide +kernel, (by show (undef : Value) ≠ .bool true; intro h; cases h), rfl, fun _ => trivial⟩⟩
      · exact ⟨fun e => absurd e (by simp), .inl ⟨2, false, rfl, by decide +kernel, (by show (.bool true : Value) ≠ .bool false; intro h; cases h), rfl, fun _ => trivial⟩⟩
      · exact ⟨fun e => absurd e (by simp), .inl ⟨2, false, rfl, by decide +kernel, (by show (.bool true : Value) ≠ .bool false; intro h; cases h), rfl, fun _ => trivial⟩⟩
      · exact ⟨fun e => absurd e (by simp), .inl ⟨19, true, rfl, by decide +kernel, (by show (undef : Value) ≠ .bool true; intro h; cases h), rfl, fun _ => trivial⟩⟩
      · exact ⟨fun e => absurd e (by simp), .inl ⟨19, true, rfl, by decide +kernel, (by show (undef : Value) ≠ .bool true; intro h; cases h), rfl, fun _ => trivial⟩⟩
      · exact ⟨fun e => absurd e (by simp), .inl ⟨19, true, rfl, by decide +kernel, (by show (undef : Value) ≠ .bool true; intro h; cases h), rfl, fun _ => trivial⟩⟩
      · exact ⟨fun e => absurd e (by simp), .inl ⟨19, true, rfl, by decide +kernel, (by show (undef : Value) ≠ .bool true; intro h; cases h), rfl, fun _ => trivial⟩⟩
      · exact ⟨fun e => absurd e (by simp), .inl ⟨19, true, rfl, by decide +kernel, (by show (undef : Value) ≠ .bool true; intro h; cases h), rfl, fun _ => trivial⟩⟩
      · exact ⟨fun e => absurd e (by simp), .inl ⟨2, false, rfl, by decide +kernel, (by show (.bool true : Value) ≠ .bool false; intro h; cases h), rfl, fun _ => trivial⟩⟩
      · refine RStep.run (by simp) rfl ?_; intro a' W hfr hdep hG; have d1 : a'.eval (.tmp 59) = .bool true := hdep 2 (by decide +kernel); exact F_pick rfl (b := true) d1 (by rfl) trivial (RBel.refl _ _)
      · refine RStep.run (by simp) rfl ?_; intro a' W hfr hdep hG; have d1 : a'.eval (.tmp 83) = .bool true := hdep 26 (by decide +kernel); exact F_move rfl d1 trivial (RBel.refl _ _)
      · refine RStep.on 27 true true (by simp) rfl (by decide +kernel) rfl (fun h => absurd rfl h) (fun _ => ?_); intro a' W hfr hdep hG; have d1 : a'.eval (.tmp 2) = .int .u32 (hh : Int) := hfr 2 (by decide +kernel); exact F_move rfl d1 trivial (RBel.refl _ _)
      · refine RStep.on 27 true true (by simp) rfl (by decide +kernel) rfl (fun h => absurd rfl h) (fun _ => ?_); intro a' W hfr hdep hG; have d1 : a'.eval (.tmp 9) = .pointer (some ⟨ib, 0, none⟩) := hfr 9 (by decide +kernel); refine F_val (v := .pointer (some ⟨ib, 3, none⟩)) ?_ trivial (RBel.refl _ _); simp only [execOp, d1]; first | (simp [go_sem, Act.eval, hq1, he0]; done) | (simp [go_sem, Act.eval, hq1, he0]; rw [IntKind.wrap_i64]; omega) | (simp [go_sem, Act.eval, hq1, he0]; omega)
      · refine RStep.on 27 true true (by simp) rfl (by decide +kernel) rfl (fun h => absurd rfl h) (fun _ => ?_); intro a' W hfr hdep hG; have d1 : a'.eval (.tmp 86) = .pointer (some ⟨ib, 3, none⟩) := hdep 29 (by decide +kernel); exact F_load rfl d1 (load_u32R ((HE.out.2.1 W hG).1.cell 3)) trivial (RBel.refl _ _)
      · refine RStep.on 27 true true (by simp) rfl (by decide +kernel) rfl (fun h => absurd rfl h) (fun _ => ?_); intro a' W hfr hdep hG; have d1 : a'.eval (.tmp 85) = .int .u32 (hh : Int) := hdep 28 (by decide +kernel); have d2 : a'.eval (.tmp 87) = .int .u32 (hd : Int) := hdep 30 (by decide +kernel); refine F_val (v := .bool true) ?_ trivial (RBel.refl _ _); simp only [execOp, d1, d2]; first | (simp [go_sem, Act.eval, hq1, he0]; done) | (simp [go_sem, Act.eval, hq1, he0]; rw [IntKind.wrap_i64]; omega) | (simp [go_sem, Act.eval, hq1, he0]; omega)
      · refine RStep.on 27 true true (by simp) rfl (by decide +kernel) rfl (fun h => absurd rfl h) (fun _ => ?_); intro a' W hfr hdep hG; have d1 : a'.eval (.tmp 88) = .bool true := hdep 31 (by decide +kernel); exact F_move rfl d1 trivial (RBel.refl _ _)
      · exact ⟨fun e => absurd e (by simp), .inl ⟨32, false, rfl, by decide +kernel, (by show (.bool true : Value) ≠ .bool false; intro h; cases h), rfl, fun _ => trivial⟩⟩
      · exact ⟨fun e => absurd e (by simp), .inl ⟨32, false, rfl, by decide +kernel, (by show (.bool true : Value) ≠ .bool false; intro h; cases h), rfl, fun _ => trivial⟩⟩
      · refine RStep.on 27 true true (by simp) rfl (by decide +kernel) rfl (fun h => absurd rfl h) (fun _ => ?_); intro a' W hfr hdep hG; have d1 : a'.eval (.tmp 89) = .bool true := hdep 32 (by decide +kernel); exact F_pick rfl (b := true) d1 (by rfl) trivial (RBel.refl _ _)
      · refine RStep.run (by simp) rfl ?_; intro a' W hfr hdep hG; have d1 : a'.eval (.tmp 84) = .bool true := hdep 27 (by decide +kernel); have d2 : a'.eval (.tmp 92) = .bool true := hdep 35 (by decide +kernel); exact F_pick rfl (b := true) d1 (by simpa using d2) trivial (RBel.refl _ _)
      · refine RStep.run (by simp) rfl ?_; intro a' W hfr hdep hG; have d1 : a'.eval (.tmp 93) = .bool true := hdep 36 (by decide +kernel); exact F_move rfl d1 trivial (RBel.refl _ _)
      · refine RStep.on 37 true true (by simp) rfl (by decide +kernel) rfl (fun h => absurd rfl h) (fun _ => ?_); intro a' W hfr hdep hG; refine F_call rfl Tryd.func12 rfl (by decide) (args := #[]) (by simp) (works_any W) ?_; rintro e w' ⟨rfl, hs'⟩; exact ⟨rfl, trivial, fun h => h.trans (hs'.mono h.size)⟩
      · refine RStep.run (by simp) rfl ?_; intro a' W hfr hdep hG; have d1 : a'.eval (.tmp 94) = .bool true := hdep 37 (by decide +kernel); have d2 : a'.eval (.tmp 95) = .bool true := hdep 38 (by decide +kernel); exact F_pick rfl (b := true) d1 (by simpa using d2) trivial (RBel.refl _ _)
      · refine RStep.run (by simp) rfl ?_; intro a' W hfr hdep hG; have d1 : a'.eval (.tmp 96) = .bool true := hdep 39 (by decide +kernel); exact F_assign rfl d1 trivial (RBel.refl _ _)
      intro a' wz hdd hsz hfr hG hsl
      have e := act_of_slots (fun i => ([.int .i64 (erE : Int), .bool true, .bool true, undef, undef, undef, undef, undef, undef, undef, undef, undef, undef, undef, undef, undef, undef, undef, undef, undef, undef, undef, undef, undef, undef, undef, .bool true, .bool true, .int .u32 (hh : Int), .pointer (some ⟨ib, 3, none⟩), .int .u32 (hd : Int), .bool true, .bool true, undef, undef, .bool true, .bool true, .bool true, .bool true, .bool true, .bool true] : List Value).getD i undef) (by show dstsOk _ 97 = true; decide +kernel) hdd hsz hfr (fun i hi => (hsl i hi).1)
      have HZ := Lib.hid hG
      clear hdd hsz hfr hsl hG
      have hrg : List.range 41 = [0, 1, 2, 3, 4, 5, 6, 7, 8, 9, 10, 11, 12, 13, 14, 15, 16, 17, 18, 19, 20, 21, 22, 23, 24, 25, 26, 27, 28, 29, 30, 31, 32, 33, 34, 35, 36, 37, 38, 39, 40] := rfl
      simp only [layAll, List.map_cons, List.map_nil, List.size_toArray, List.length_cons, List.length_nil, Nat.reduceAdd, hrg, List.zip_cons_cons, List.zip_nil_left, List.foldl_cons, List.foldl_nil, List.getD_cons_zero, List.getD_cons_succ, Act.put, List.setIfInBounds_toArray, List.set_cons_zero, List.set_cons_succ] at e
      subst e
      clear hrg
      apply_assumption
      (repeat (rename_i x; clear x))
      go_wp2_with fail
      go_ret
      exact ⟨rfl, HE.out.1.trans (HZ.out.mono HE.out.1.size)⟩
  · have hD1 : ((erD : Int) == 0) = false := by simp; omega
    have hK1 : ((kk : Int) == 16) = false := by simp; omega
    by_cases he : erE = 0
    · subst he
      obtain ⟨rfl, g1, g2⟩ := HC.out.2 rfl
      have g1' : (dr : Int) + 96 + 40 * n6 ≤ eh := by have := HL.out.2.2.2.2.2.2.1; omega
      have g2' : (eh : Int) ≤ n3 := by omega
      by_cases hq : eh = hd
      · have hq1 : ((eh : Int) != hd) = false := by simp; omega
        go_upto_region 12 with fail
        refine wp_region_facts (fun i => ([.int .i64 0, .bool false, .bool false, .pointer (some ⟨jc, 3, none⟩), .int .u32 (eh : Int), .int .u32 (eh : Int), .bool true, .bool true, .int .u32 (eh : Int), .int .i64 (eh : Int), .agg #[.bool pl, .int .i64 (ck : Int), .int .i64 (dr : Int), .int .u32 (hd : Int), .slice A4 m4 f4, .int .u32 (tb : Int), .int .u32 (ln : Int), .slice A7 m7 f7], .int .i64 ((dr : Int) + 96), .pointer (some ⟨xb, 3, none⟩), .slice A6 n6 c6, .int .i64 (n6 : Int), .int .i64 (40 * (n6 : Int)), .int .i64 ((dr : Int) + 96 + 40 * (n6 : Int)), .bool true, .bool true, .bool true, .int .u32 (eh : Int), .int .i64 (eh : Int), .slice A3 n3 c3, .int .i64 (n3 : Int), .bool true, .bool true, .bool true, .bool true, .int .u32 (eh : Int), .pointer (some ⟨ib, 3, none⟩), .int .u32 (hd : Int), .bool false, .bool false, .int .i64 0, .bool true, .bool true, .bool true, .bool true, .bool true, .bool true, .bool true] : List Value).getD i undef) (fun _ _ => True) (Below w9s.heap.size w9s) (RBel w9s)
          rfl (fun _ => RBel.refl _ _) (fun _ _ h k => k h) (fun _ _ _ _ _ => trivial) (by show dstsOk _ 97 = true; decide +kernel) (by decide +kernel) (Below.refl w9s.heap.size w9s).drew ⟨?_, ?_, ?_, ?_, ?_, ?_, ?_, ?_, ?_, ?_, ?_, ?_, ?_, ?_, ?_, ?_, ?_, ?_, ?_, ?_, ?_, ?_, ?_, ?_, ?_, ?_, ?_, ?_, ?_, ?_, ?_, ?_, ?_, ?_, ?_, ?_, ?_, ?_, ?_, ?_, ?_, trivial⟩ ?_
        · refine RStep.run (by simp) rfl ?_; intro a' W hfr hdep hG; have d1 : a'.eval (.tmp 16) = .int .i64 0 := hfr 16 (by decide +kernel); exact F_move rfl d1 trivial (RBel.refl _ _)
        · refine RStep.run (by simp) rfl ?_; intro a' W hfr hdep hG; have d1 : a'.eval (.tmp 57) = .int .i64 0 := hdep 0 (by decide +kernel); refine F_val (v := .bool false) ?_ trivial (RBel.refl _ _); simp only [execOp, d1]; first | (simp [go_sem, Act.eval, hq1, g1', g2', hlE]; done) | (simp [go_sem, Act.eval, hq1, g1', g2', hlE]; rw [IntKind.wrap_i64]; omega) | (simp [go_sem, Act.eval, hq1, g1', g2', hlE]; omega)
        · refine RStep.run (by simp) rfl ?_; intro a' W hfr hdep hG; have d1 : a'.eval (.tmp 58) = .bool false := hdep 1 (by decide +kernel); exact F_move rfl d1 trivial (RBel.refl _ _)
        · refine RStep.on 2 false false (by simp) rfl (by decide +kernel) rfl (fun h => absurd rfl h) (fun _ => ?_); intro a' W hfr hdep hG; have d1 : a'.eval (.tmp 15) = .pointer (some ⟨jc, 0, none⟩) := hfr 15 (by decide +kernel); refine F_val (v := .pointer (some ⟨jc, 3, none⟩)) ?_ trivial (RBel.refl _ _); simp only [execOp, d1]; first | (simp [go_sem, Act.eval, hq1, g1', g2', hlE]; done) | (simp [go_sem, Act.eval, hq1, g1', g2', hlE]; rw [IntKind.wrap_i64]; omega) | (simp [go_sem, Act.eval, hq1, g1', g2', hlE]; omega)
        · refine RStep.on 2 false false (by simp) rfl (by decide +kernel) rfl (fun h => absurd rfl h) (fun _ => ?_); intro a' W hfr hdep hG; have d1 : a'.eval (.tmp 60) = .pointer (some ⟨jc, 3, none⟩) := hdep 3 (by decide +kernel); exact F_load rfl d1 (load_u32R (HE.out.2.1 W hG).2.1) trivial (RBel.refl _ _)
        · refine RStep.on 2 false false (by simp) rfl (by decide +kernel) rfl (fun h => absurd rfl h) (fun _ => ?_); intro a' W hfr hdep hG; have d1 : a'.eval (.tmp 2) = .int .u32 (eh : Int) := hfr 2 (by decide +kernel); exact F_move rfl d1 trivial (RBel.refl _ _)
        · refine RStep.on 2 false false (by simp) rfl (by decide +kernel) rfl (fun h => absurd rfl h) (fun _ => ?_); intro a' W hfr hdep hG; have d1 : a'.eval (.tmp 61) = .int .u32 (eh : Int) := hdep 4 (by decide +kernel); have d2 : a'.eval (.tmp 62) = .int .u32 (eh : Int) := hdep 5 (by decide +kernel); refine F_val (v := .bool true) ?_ trivial (RBel.refl _ _); simp only [execOp, d1, d2]; first | (simp [go_sem, Act.eval, hq1, g1', g2', hlE]; done) | (simp [go_sem, Act.eval, hq1, g1', g2', hlE]; rw [IntKind.wrap_i64]; omega) | (simp [go_sem, Act.eval, hq1, g1', g2', hlE]; omega)
        · refine RStep.on 2 false false (by simp) rfl (by decide +kernel) rfl (fun h => absurd rfl h) (fun _ => ?_); intro a' W hfr hdep hG; have d1 : a'.eval (.tmp 63) = .bool true := hdep 6 (by decide +kernel); exact F_move rfl d1 trivial (RBel.refl _ _)
        · refine RStep.on 7 true true (by simp) rfl (by decide +kernel) rfl (fun h => absurd rfl h) (fun _ => ?_); intro a' W hfr hdep hG; have d1 : a'.eval (.tmp 2) = .int .u32 (eh : Int) := hfr 2 (by decide +kernel); exact F_move rfl d1 trivial (RBel.refl _ _)
        · refine RStep.on 7 true true (by simp) rfl (by decide +kernel) rfl (fun h => absurd rfl h) (fun _ => ?_); intro a' W hfr hdep hG; have d1 : a'.eval (.tmp 65) = .int .u32 (eh : Int) := hdep 8 (by decide +kernel); refine F_val (v := .int .i64 (eh : Int)) ?_ trivial (RBel.refl _ _); simp only [execOp, d1]; first | (simp [go_sem, Act.eval, hq1, g1', g2', hlE]; done) | (simp [go_sem, Act.eval, hq1, g1', g2', hlE]; rw [IntKind.wrap_i64]; omega) | (simp [go_sem, Act.eval, hq1, g1', g2', hlE]; omega)
        · refine RStep.on 7 true true (by simp) rfl (by decide +kernel) rfl (fun h => absurd rfl h) (fun _ => ?_); intro a' W hfr hdep hG; have d1 : a'.eval (.tmp 9) = .pointer (some ⟨ib, 0, none⟩) := hfr 9 (by decide +kernel); exact F_load rfl d1 (load_img (HE.out.2.1 W hG).1) trivial (RBel.refl _ _)
        · refine RStep.on 7 true true (by simp) rfl (by decide +kernel) rfl (fun h => absurd rfl h) (fun _ => ?_); intro a' W hfr hdep hG; have d1 : a'.eval (.tmp 67) = .agg #[.bool pl, .int .i64 (ck : Int), .int .i64 (dr : Int), .int .u32 (hd : Int), .slice A4 m4 f4, .int .u32 (tb : Int), .int .u32 (ln : Int), .slice A7 m7 f7] := hdep 10 (by decide +kernel); refine F_call rfl Tryd.func22 rfl (by decide) (args := #[.agg #[.bool pl, .int .i64 (ck : Int), .int .i64 (dr : Int), .int .u32 (hd : Int), .slice A4 m4 f4, .int .u32 (tb : Int), .int .u32 (ln : Int), .slice A7 m7 f7]]) (by simp only [List.map_toArray, List.map_cons, List.map_nil, d1] <;> rfl) (HL.out.2.2.2.1 W) ?_; rintro e w' ⟨rfl, hs'⟩; exact ⟨rfl, trivial, fun h => h.trans (hs'.mono h.size)⟩
        · refine RStep.on 7 true true (by simp) rfl (by decide +kernel) rfl (fun h => absurd rfl h) (fun _ => ?_); intro a' W hfr hdep hG; have d1 : a'.eval (.tmp 7) = .pointer (some ⟨xb, 0, none⟩) := hfr 7 (by decide +kernel); refine F_val (v := .pointer (some ⟨xb, 3, none⟩)) ?_ trivial (RBel.refl _ _); simp only [execOp, d1]; first | (simp [go_sem, Act.eval, hq1, g1', g2', hlE]; done) | (simp [go_sem, Act.eval, hq1, g1', g2', hlE]; rw [IntKind.wrap_i64]; omega) | (simp [go_sem, Act.eval, hq1, g1', g2', hlE]; omega)
        · refine RStep.on 7 true true (by simp) rfl (by decide +kernel) rfl (fun h => absurd rfl h) (fun _ => ?_); intro a' W hfr hdep hG; have d1 : a'.eval (.tmp 69) = .pointer (some ⟨xb, 3, none⟩) := hdep 12 (by decide +kernel); exact F_load rfl d1 (load_bytessR (HE.out.2.1 W hG).2.2) trivial (RBel.refl _ _)
        · refine RStep.on 7 true true (by simp) rfl (by decide +kernel) rfl (fun h => absurd rfl h) (fun _ => ?_); intro a' W hfr hdep hG; have d1 : a'.eval (.tmp 70) = .slice A6 n6 c6 := hdep 13 (by decide +kernel); exact F_lenL rfl d1 trivial (RBel.refl _ _)
        · refine RStep.on 7 true true (by simp) rfl (by decide +kernel) rfl (fun h => absurd rfl h) (fun _ => ?_); intro a' W hfr hdep hG; have d2 : a'.eval (.tmp 71) = .int .i64 (n6 : Int) := hdep 14 (by decide +kernel); refine F_val (v := .int .i64 (40 * (n6 : Int))) ?_ trivial (RBel.refl _ _); simp only [execOp, d2]; first | (simp [go_sem, Act.eval, hq1, g1', g2', hlE]; done) | (simp [go_sem, Act.eval, hq1, g1', g2', hlE]; rw [IntKind.wrap_i64]; omega) | (simp [go_sem, Act.eval, hq1, g1', g2', hlE]; omega)
        · refine RStep.on 7 true true (by simp) rfl (by decide +kernel) rfl (fun h => absurd rfl h) (fun _ => ?_); intro a' W hfr hdep hG; have d1 : a'.eval (.tmp 68) = .int .i64 ((dr : Int) + 96) := hdep 11 (by decide +kernel); have d2 : a'.eval (.tmp 72) = .int .i64 (40 * (n6 : Int)) := hdep 15 (by decide +kernel); refine F_val (v := .int .i64 ((dr : Int) + 96 + 40 * (n6 : Int))) ?_ trivial (RBel.refl _ _); simp only [execOp, d1, d2]; first | (simp [go_sem, Act.eval, hq1, g1', g2', hlE]; done) | (simp [go_sem, Act.eval, hq1, g1', g2', hlE]; rw [IntKind.wrap_i64]; omega) | (simp [go_sem, Act.eval, hq1, g1', g2', hlE]; omega)
        · refine RStep.on 7 true true (by simp) rfl (by decide +kernel) rfl (fun h => absurd rfl h) (fun _ => ?_); intro a' W hfr hdep hG; have d1 : a'.eval (.tmp 66) = .int .i64 (eh : Int) := hdep 9 (by decide +kernel); have d2 : a'.eval (.tmp 73) = .int .i64 ((dr : Int) + 96 + 40 * (n6 : Int)) := hdep 16 (by decide +kernel); refine F_val (v := .bool true) ?_ trivial (RBel.refl _ _); simp only [execOp, d1, d2]; first | (simp [go_sem, Act.eval, hq1, g1', g2', hlE]; done) | (simp [go_sem, Act.eval, hq1, g1', g2', hlE]; rw [IntKind.wrap_i64]; omega) | (simp [go_sem, Act.eval, hq1, g1', g2', hlE]; omega)
        · refine RStep.on 2 false false (by simp) rfl (by decide +kernel) rfl (fun h => absurd rfl h) (fun _ => ?_); intro a' W hfr hdep hG; have d1 : a'.eval (.tmp 64) = .bool true := hdep 7 (by decide +kernel); have d2 : a'.eval (.tmp 74) = .bool true := hdep 17 (by decide +kernel); exact F_pick rfl (b := true) d1 (by simpa using d2) trivial (RBel.refl _ _)
        · refine RStep.on 2 false false (by simp) rfl (by decide +kernel) rfl (fun h => absurd rfl h) (fun _ => ?_); intro a' W hfr hdep hG; have d1 : a'.eval (.tmp 75) = .bool true := hdep 18 (by decide +kernel); exact F_move rfl d1 trivial (RBel.refl _ _)
        · refine RStep.on 19 true true (by simp) rfl (by decide +kernel) rfl (fun h => absurd rfl h) (fun _ => ?_); intro a' W hfr hdep hG; have d1 : a'.eval (.tmp 2) = .int .u32 (eh : Int) := hfr 2 (by decide +kernel); exact F_move rfl d1 trivial (RBel.refl _ _)
        · refine RStep.on 19 true true (by simp) rfl (by decide +kernel) rfl (fun h => absurd rfl h) (fun _ => ?_); intro a' W hfr hdep hG; have d1 : a'.eval (.tmp 77) = .int .u32 (eh : Int) := hdep 20 (by decide +kernel); refine F_val (v := .int .i64 (eh : Int)) ?_ trivial (RBel.refl _ _); simp only [execOp, d1]; first | (simp [go_sem, Act.eval, hq1, g1', g2', hlE]; done) | (simp [go_sem, Act.eval, hq1, g1', g2', hlE]; rw [IntKind.wrap_i64]; omega) | (simp [go_sem, Act.eval, hq1, g1', g2', hlE]; omega)
        · refine RStep.on 19 true true (by simp) rfl (by decide +kernel) rfl (fun h => absurd rfl h) (fun _ => ?_); intro a' W hfr hdep hG; have d1 : a'.eval (.tmp 8) = .slice A3 n3 c3 := hfr 8 (by decide +kernel); exact F_move rfl d1 trivial (RBel.refl _ _)
        · refine RStep.on 19 true true (by simp) rfl (by decide +kernel) rfl (fun h => absurd rfl h) (fun _ => ?_); intro a' W hfr hdep hG; have d1 : a'.eval (.tmp 79) = .slice A3 n3 c3 := hdep 22 (by decide +kernel); exact F_len rfl d1 trivial (RBel.refl _ _)
        · refine RStep.on 19 true true (by simp) rfl (by decide +kernel) rfl (fun h => absurd rfl h) (fun _ => ?_); intro a' W hfr hdep hG; have d1 : a'.eval (.tmp 78) = .int .i64 (eh : Int) := hdep 21 (by decide +kernel); have d2 : a'.eval (.tmp 80) = .int .i64 (n3 : Int) := hdep 23 (by decide +kernel); refine F_val (v := .bool true) ?_ trivial (RBel.refl _ _); simp only [execOp, d1, d2]; first | (simp [go_sem, Act.eval, hq1, g1', g2', hlE]; done) | (simp [go_sem, Act.eval, hq1, g1', g2', hlE]; rw [IntKind.wrap_i64]; omega) | (simp [go_sem, Act.eval, hq1, g1', g2', hlE]; omega)
        · refine RStep.on 2 false false (by simp) rfl (by decide +kernel) rfl (fun h => absurd rfl h) (fun _ => ?_); intro a' W hfr hdep hG; have d1 : a'.eval (.tmp 76) = .bool true := hdep 19 (by decide +kernel); have d2 : a'.eval (.tmp 81) = .bool true := hdep 24 (by decide +kernel); exact F_pick rfl (b := true) d1 (by simpa using d2) trivial (RBel.refl _ _)
        · refine RStep.run (by simp) rfl ?_; intro a' W hfr hdep hG; have d1 : a'.eval (.tmp 59) = .bool false := hdep 2 (by decide +kernel); have d2 : a'.eval (.tmp 82) = .bool true := hdep 25 (by decide +kernel); exact F_pick rfl (b := false) d1 (by simpa using d2) trivial (RBel.refl _ _)
        · refine RStep.run (by simp) rfl ?_; intro a' W hfr hdep hG; have d1 : a'.eval (.tmp 83) = .bool true := hdep 26 (by decide +kernel); exact F_move rfl d1 trivial (RBel.refl _ _)
        · refine RStep.on 27 true true (by simp) rfl (by decide +kernel) rfl (fun h => absurd rfl h) (fun _ => ?_); intro a' W hfr hdep hG; have d1 : a'.eval (.tmp 2) = .int .u32 (eh : Int) := hfr 2 (by decide +kernel); exact F_move rfl d1 trivial (RBel.refl _ _)
        · refine RStep.on 27 true true (by simp) rfl (by decide +kernel) rfl (fun h => absurd rfl h) (fun _ => ?_); intro a' W hfr hdep hG; have d1 : a'.eval (.tmp 9) = .pointer (some ⟨ib, 0, none⟩) := hfr 9 (by decide +kernel); refine F_val (v := .pointer (some ⟨ib, 3, none⟩)) ?_ trivial (RBel.refl _ _); simp only [execOp, d1]; first | (simp [go_sem, Act.eval, hq1, g1', g2', hlE]; done) | (simp [go_sem, Act.eval, hq1, g1', g2', hlE]; rw [IntKind.wrap_i64]; omega) | (simp [go_sem, Act.eval, hq1, g1', g2', hlE]; omega)
        · refine RStep.on 27 true true (by simp) rfl (by decide +kernel) rfl (fun h => absurd rfl h) (fun _ => ?_); intro a' W hfr hdep hG; have d1 : a'.eval (.tmp 86) = .pointer (some ⟨ib, 3, none⟩) := hdep 29 (by decide +kernel); exact F_load rfl d1 (load_u32R ((HE.out.2.1 W hG).1.cell 3)) trivial (RBel.refl _ _)
        · refine RStep.on 27 true true (by simp) rfl (by decide +kernel) rfl (fun h => absurd rfl h) (fun _ => ?_); intro a' W hfr hdep hG; have d1 : a'.eval (.tmp 85) = .int .u32 (eh : Int) := hdep 28 (by decide +kernel); have d2 : a'.eval (.tmp 87) = .int .u32 (hd : Int) := hdep 30 (by decide +kernel); refine F_val (v := .bool false) ?_ trivial (RBel.refl _ _); simp only [execOp, d1, d2]; first | (simp [go_sem, Act.eval, hq1, g1', g2', hlE]; done) | (simp [go_sem, Act.eval, hq1, g1', g2', hlE]; rw [IntKind.wrap_i64]; omega) | (simp [go_sem, Act.eval, hq1, g1', g2', hlE]; omega)
        · refine RStep.on 27 true true (by simp) rfl (by decide +kernel) rfl (fun h => absurd rfl h) (fun _ => ?_); intro a' W hfr hdep hG; have d1 : a'.eval (.tmp 88) = .bool false := hdep 31 (by decide +kernel); exact F_move rfl d1 trivial (RBel.refl _ _)
        · refine RStep.on 32 false false (by simp) rfl (by decide +kernel) rfl (fun h => absurd rfl h) (fun _ => ?_); intro a' W hfr hdep hG; have d1 : a'.eval (.tmp 16) = .int .i64 0 := hfr 16 (by decide +kernel); exact F_move rfl d1 trivial (RBel.refl _ _)
        · refine RStep.on 32 false false (by simp) rfl (by decide +kernel) rfl (fun h => absurd rfl h) (fun _ => ?_); intro a' W hfr hdep hG; have d1 : a'.eval (.tmp 90) = .int .i64 0 := hdep 33 (by decide +kernel); refine F_val (v := .bool true) ?_ trivial (RBel.refl _ _); simp only [execOp, d1]; first | (simp [go_sem, Act.eval, hq1, g1', g2', hlE]; done) | (simp [go_sem, Act.eval, hq1, g1', g2', hlE]; rw [IntKind.wrap_i64]; omega) | (simp [go_sem, Act.eval, hq1, g1', g2', hlE]; omega)
        · refine RStep.on 27 true true (by simp) rfl (by decide +kernel) rfl (fun h => absurd rfl h) (fun _ => ?_); intro a' W hfr hdep hG; have d1 : a'.eval (.tmp 89) = .bool false := hdep 32 (by decide +kernel); have d2 : a'.eval (.tmp 91) = .bool true := hdep 34 (by decide +kernel); exact F_pick rfl (b := false) d1 (by simpa using d2) trivial (RBel.refl _ _)
        · refine RStep.run (by simp) rfl ?_; intro a' W hfr hdep hG; have d1 : a'.eval (.tmp 84) = .bool true := hdep 27 (by decide +kernel); have d2 : a'.eval (.tmp 92) = .bool true := hdep 35 (by decide +kernel); exact F_pick rfl (b := true) d1 (by simpa using d2) trivial (RBel.refl _ _)
        · refine RStep.run (by simp) rfl ?_; intro a' W hfr hdep hG; have d1 : a'.eval (.tmp 93) = .bool true := hdep 36 (by decide +kernel); exact F_move rfl d1 trivial (RBel.refl _ _)
        · refine RStep.on 37 true true (by simp) rfl (by decide +kernel) rfl (fun h => absurd rfl h) (fun _ => ?_); intro a' W hfr hdep hG; refine F_call rfl Tryd.func12 rfl (by decide) (args := #[]) (by simp) (works_any W) ?_; rintro e w' ⟨rfl, hs'⟩; exact ⟨rfl, trivial, fun h => h.trans (hs'.mono h.size)⟩
        · refine RStep.run (by simp) rfl ?_; intro a' W hfr hdep hG; have d1 : a'.eval (.tmp 94) = .bool true := hdep 37 (by decide +kernel); have d2 : a'.eval (.tmp 95) = .bool true := hdep 38 (by decide +kernel); exact F_pick rfl (b := true) d1 (by simpa using d2) trivial (RBel.refl _ _)
        · refine RStep.run (by simp) rfl ?_; intro a' W hfr hdep hG; have d1 : a'.eval (.tmp 96) = .bool true := hdep 39 (by decide +kernel); exact F_assign rfl d1 trivial (RBel.refl _ _)
        intro a' wz hdd hsz hfr hG hsl
        have e := act_of_slots (fun i => ([.int .i64 0, .bool false, .bool false, .pointer (some ⟨jc, 3, none⟩), .int .u32 (eh : Int), .int .u32 (eh : Int), .bool true, .bool true, .int .u32 (eh : Int), .int .i64 (eh : Int), .agg #[.bool pl, .int .i64 (ck : Int), .int .i64 (dr : Int), .int .u32 (hd : Int), .slice A4 m4 f4, .int .u32 (tb : Int), .int .u32 (ln : Int), .slice A7 m7 f7], .int .i64 ((dr : Int) + 96), .pointer (some ⟨xb, 3, none⟩), .slice A6 n6 c6, .int .i64 (n6 : Int), .int .i64 (40 * (n6 : Int)), .int .i64 ((dr : Int) + 96 + 40 * (n6 : Int)), .bool true, .bool true, .bool true, .int .u32 (eh : Int), .int .i64 (eh : Int), .slice A3 n3 c3, .int .i64 (n3 : Int), .bool true, .bool true, .bool true, .bool true, .int .u32 (eh : Int), .pointer (some ⟨ib, 3, none⟩), .int .u32 (hd : Int), .bool false, .bool false, .int .i64 0, .bool true, .bool true, .bool true, .bool true, .bool true, .bool true, .bool true] : List Value).getD i undef) (by show dstsOk _ 97 = true; decide +kernel) hdd hsz hfr (fun i hi => (hsl i hi).1)
        have HZ := Lib.hid hG
        clear hdd hsz hfr hsl hG
        have hrg : List.range 41 = [0, 1, 2, 3, 4, 5, 6, 7, 8, 9, 10, 11, 12, 13, 14, 15, 16, 17, 18, 19, 20, 21, 22, 23, 24, 25, 26, 27, 28, 29, 30, 31, 32, 33, 34, 35, 36, 37, 38, 39, 40] := rfl
        simp only [layAll, List.map_cons, List.map_nil, List.size_toArray, List.length_cons, List.length_nil, Nat.reduceAdd, hrg, List.zip_cons_cons, List.zip_nil_left, List.foldl_cons, List.foldl_nil, List.getD_cons_zero, List.getD_cons_succ, Act.put, List.setIfInBounds_toArray, List.set_cons_zero, List.set_cons_succ] at e
        subst e
        clear hrg
        apply_assumption
        (repeat (rename_i x; clear x))
        go_wp2_with fail
        go_ret
        exact ⟨rfl, HE.out.1.trans (HZ.out.mono HE.out.1.size)⟩
      · have hq1 : ((eh : Int) != hd) = true := by simp; omega
        go_upto_region 12 with fail
        refine wp_region_facts (fun i => ([.int .i64 0, .bool false, .bool false, .pointer (some ⟨jc, 3, none⟩), .int .u32 (eh : Int), .int .u32 (eh : Int), .bool true, .bool true, .int .u32 (eh : Int), .int .i64 (eh : Int), .agg #[.bool pl, .int .i64 (ck : Int), .int .i64 (dr : Int), .int .u32 (hd : Int), .slice A4 m4 f4, .int .u32 (tb : Int), .int .u32 (ln : Int), .slice A7 m7 f7], .int .i64 ((dr : Int) + 96), .pointer (some ⟨xb, 3, none⟩), .slice A6 n6 c6, .int .i64 (n6 : Int), .int .i64 (40 * (n6 : Int)), .int .i64 ((dr : Int) + 96 + 40 * (n6 : Int)), .bool true, .bool true, .bool true, .int .u32 (eh : Int), .int .i64 (eh : Int), .slice A3 n3 c3, .int .i64 (n3 : Int), .bool true, .bool true, .bool true, .bool true, .int .u32 (eh : Int), .pointer (some ⟨ib, 3, none⟩), .int .u32 (hd : Int), .bool true, .bool true, undef, undef, .bool true, .bool true, .bool true, .bool true, .bool true, .bool true] : List Value).getD i undef) (fun _ _ => True) (Below w9s.heap.size w9s) (RBel w9s)
          rfl (fun _ => RBel.refl _ _) (fun _ _ h k => k h) (fun _ _ _ _ _ => trivial) (by show dstsOk _ 97 = true; decide +kernel) (by decide +kernel) (Below.refl w9s.heap.size w9s).drew ⟨?_, ?_, ?_, ?_, ?_, ?_, ?_, ?_, ?_, ?_, ?_, ?_, ?_, ?_, ?_, ?_, ?_, ?_, ?_, ?_, ?_, ?_, ?_, ?_, ?_, ?_, ?_, ?_, ?_, ?_, ?_, ?_, ?_, ?_, ?_, ?_, ?_, ?_, ?_, ?_, ?_, trivial⟩ ?_
        · refine RStep.run (by simp) rfl ?_; intro a' W hfr hdep hG; have d1 : a'.eval (.tmp 16) = .int .i64 0 := hfr 16 (by decide +kernel); exact F_move rfl d1 trivial (RBel.refl _ _)
        · refine RStep.run (by simp) rfl ?_; intro a' W hfr hdep hG; have d1 : a'.eval (.tmp 57) = .int .i64 0 := hdep 0 (by decide +kernel); refine F_val (v := .bool false) ?_ trivial (RBel.refl _ _); simp only [execOp, d1]; first | (simp [go_sem, Act.eval, hq1, g1', g2', hlE]; done) | (simp [go_sem, Act.eval, hq1, g1', g2', hlE]; rw [IntKind.wrap_i64]; omega) | (simp [go_sem, Act.eval, hq1, g1', g2', hlE]; omega)
        · refine RStep.run (by simp) rfl ?_; intro a' W hfr hdep hG; have d1 : a'.eval (.tmp 58) = .bool false := hdep 1 (by decide +kernel); exact F_move rfl d1 trivial (RBel.refl _ _)
        · refine RStep.on 2 false false (by simp) rfl (by decide +kernel) rfl (fun h => absurd rfl h) (fun _ => ?_); intro a' W hfr hdep hG; have d1 : a'.eval (.tmp 15) = .pointer (some ⟨jc, 0, none⟩) := hfr 15 (by decide +kernel); refine F_val (v := .pointer (some ⟨jc, 3, none⟩)) ?_ trivial (RBel.refl _ _); simp only [execOp, d1]; first | (simp [go_sem, Act.eval, hq1, g1', g2', hlE]; done) | (simp [go_sem, Act.eval, hq1, g1', g2', hlE]; rw [IntKind.wrap_i64]; omega) | (simp [go_sem, Act.eval, hq1, g1', g2', hlE]; omega)
        · refine RStep.on 2 false false (by simp) rfl (by decide +kernel) rfl (fun h => absurd rfl h) (fun _ => ?_); intro a' W hfr hdep hG; have d1 : a'.eval (.tmp 60) = .pointer (some ⟨jc, 3, none⟩) := hdep 3 (by decide +kernel); exact F_load rfl d1 (load_u32R (HE.out.2.1 W hG).2.1) trivial (RBel.refl _ _)
        · refine RStep.on 2 false false (by simp) rfl (by decide +kernel) rfl (fun h => absurd rfl h) (fun _ => ?_); intro a' W hfr hdep hG; have d1 : a'.eval (.tmp 2) = .int .u32 (eh : Int) := hfr 2 (by decide +kernel); exact F_move rfl d1 trivial (RBel.refl _ _)
        · refine RStep.on 2 false false (by simp) rfl (by decide +kernel) rfl (fun h => absurd rfl h) (fun _ => ?_); intro a' W hfr hdep hG; have d1 : a'.eval (.tmp 61) = .int .u32 (eh : Int) := hdep 4 (by decide +kernel); have d2 : a'.eval (.tmp 62) = .int .u32 (eh : Int) := hdep 5 (by decide +kernel); refine F_val (v := .bool true) ?_ trivial (RBel.refl _ _); simp only [execOp, d1, d2]; first | (simp [go_sem, Act.eval, hq1, g1', g2', hlE]; done) | (simp [go_sem, Act.eval, hq1, g1', g2', hlE]; rw [IntKind.wrap_i64]; omega) | (simp [go_sem, Act.eval, hq1, g1', g2', hlE]; omega)
        · refine RStep.on 2 false false (by simp) rfl (by decide +kernel) rfl (fun h => absurd rfl h) (fun _ => ?_); intro a' W hfr hdep hG; have d1 : a'.eval (.tmp 63) = .bool true := hdep 6 (by decide +kernel); exact F_move rfl d1 trivial (RBel.refl _ _)
        · refine RStep.on 7 true true (by simp) rfl (by decide +kernel) rfl (fun h => absurd rfl h) (fun _ => ?_); intro a' W hfr hdep hG; have d1 : a'.eval (.tmp 2) = .int .u32 (eh : Int) := hfr 2 (by decide +kernel); exact F_move rfl d1 trivial (RBel.refl _ _)
        · refine RStep.on 7 true true (by simp) rfl (by decide +kernel) rfl (fun h => absurd rfl h) (fun _ => ?_); intro a' W hfr hdep hG; have d1 : a'.eval (.tmp 65) = .int .u32 (eh : Int) := hdep 8 (by decide +kernel); refine F_val (v := .int .i64 (eh : Int)) ?_ trivial (RBel.refl _ _); simp only [execOp, d1]; first | (simp [go_sem, Act.eval, hq1, g1', g2', hlE]; done) | (simp [go_sem, Act.eval, hq1, g1', g2', hlE]; rw [IntKind.wrap_i64]; omega) | (simp [go_sem, Act.eval, hq1, g1', g2', hlE]; omega)
        · refine RStep.on 7 true true (by simp) rfl (by decide +kernel) rfl (fun h => absurd rfl h) (fun _ => ?_); intro a' W hfr hdep hG; have d1 : a'.eval (.tmp 9) = .pointer (some ⟨ib, 0, none⟩) := hfr 9 (by decide +kernel); exact F_load rfl d1 (load_img (HE.out.2.1 W hG).1) trivial (RBel.refl _ _)
        · refine RStep.on 7 true true (by simp) rfl (by decide +kernel) rfl (fun h => absurd rfl h) (fun _ => ?_); intro a' W hfr hdep hG; have d1 : a'.eval (.tmp 67) = .agg #[.bool pl, .int .i64 (ck : Int), .int .i64 (dr : Int), .int .u32 (hd : Int), .slice A4 m4 f4, .int .u32 (tb : Int), .int .u32 (ln : Int), .slice A7 m7 f7] := hdep 10 (by decide +kernel); refine F_call rfl Tryd.func22 rfl (by decide) (args := #[.agg #[.bool pl, .int .i64 (ck : Int), .int .i64 (dr : Int), .int .u32 (hd : Int), .slice A4 m4 f4, .int .u32 (tb : Int), .int .u32 (ln : Int), .slice A7 m7 f7]]) (by simp only [List.map_toArray, List.map_cons, List.map_nil, d1] <;> rfl) (HL.out.2.2.2.1 W) ?_; rintro e w' ⟨rfl, hs'⟩; exact ⟨rfl, trivial, fun h => h.trans (hs'.mono h.size)⟩
        · refine RStep.on 7 true true (by simp) rfl (by decide +kernel) rfl (fun h => absurd rfl h) (fun _ => ?_); intro a' W hfr hdep hG; have d1 : a'.eval (.tmp 7) = .pointer (some ⟨xb, 0, none⟩) := hfr 7 (by decide +kernel); refine F_val (v := .pointer (some ⟨xb, 3, none⟩)) ?_ trivial (RBel.refl _ _); simp only [execOp, d1]; first | (simp [go_sem, Act.eval, hq1, g1', g2', hlE]; done) | (simp [go_sem, Act.eval, hq1, g1', g2', hlE]; rw [IntKind.wrap_i64]; omega) | (simp [go_sem, Act.eval, hq1, g1', g2', hlE]; omega)
        · refine RStep.on 7 true true (by simp) rfl (by decide +kernel) rfl (fun h => absurd rfl h) (fun _ => ?_); intro a' W hfr hdep hG; have d1 : a'.eval (.tmp 69) = .pointer (some ⟨xb, 3, none⟩) := hdep 12 (by decide +kernel); exact F_load rfl d1 (load_bytessR (HE.out.2.1 W hG).2.2) trivial (RBel.refl _ _)
        · refine RStep.on 7 true true (by simp) rfl (by decide +kernel) rfl (fun h => absurd rfl h) (fun _ => ?_); intro a' W hfr hdep hG; have d1 : a'.eval (.tmp 70) = .slice A6 n6 c6 := hdep 13 (by decide +kernel); exact F_lenL rfl d1 trivial (RBel.refl _ _)
        · refine RStep.on 7 true true (by simp) rfl (by decide +kernel) rfl (fun h => absurd rfl h) (fun _ => ?_); intro a' W hfr hdep hG; have d2 : a'.eval (.tmp 71) = .int .i64 (n6 : Int) := hdep 14 (by decide +kernel); refine F_val (v := .int .i64 (40 * (n6 : Int))) ?_ trivial (RBel.refl _ _); simp only [execOp, d2]; first | (simp [go_sem, Act.eval, hq1, g1', g2', hlE]; done) | (simp [go_sem, Act.eval, hq1, g1', g2', hlE]; rw [IntKind.wrap_i64]; omega) | (simp [go_sem, Act.eval, hq1, g1', g2', hlE]; omega)
        · refine RStep.on 7 true true (by simp) rfl (by decide +kernel) rfl (fun h => absurd rfl h) (fun _ => ?_); intro a' W hfr hdep hG; have d1 : a'.eval (.tmp 68) = .int .i64 ((dr : Int) + 96) := hdep 11 (by decide +kernel); have d2 : a'.eval (.tmp 72) = .int .i64 (40 * (n6 : Int)) := hdep 15 (by decide +kernel); refine F_val (v := .int .i64 ((dr : Int) + 96 + 40 * (n6 : Int))) ?_ trivial (RBel.refl _ _); simp only [execOp, d1, d2]; first | (simp [go_sem, Act.eval, hq1, g1', g2', hlE]; done) | (simp [go_sem, Act.eval, hq1, g1', g2', hlE]; rw [IntKind.wrap_i64]; omega) | (simp [go_sem, Act.eval, hq1, g1', g2', hlE]; omega)
        · refine RStep.on 7 true true (by simp) rfl (by decide +kernel) rfl (fun h => absurd rfl h) (fun _ => ?_); intro a' W hfr hdep hG; have d1 : a'.eval (.tmp 66) = .int .i64 (eh : Int) := hdep 9 (by decide +kernel); have d2 : a'.eval (.tmp 73) = .int .i64 ((dr : Int) + 96 + 40 * (n6 : Int)) := hdep 16 (by decide +kernel); refine F_val (v := .bool true) ?_ trivial (RBel.refl _ _); simp only [execOp, d1, d2]; first | (simp [go_sem, Act.eval, hq1, g1', g2', hlE]; done) | (simp [go_sem, Act.eval, hq1, g1', g2', hlE]; rw [IntKind.wrap_i64]; omega) | (simp [go_sem, Act.eval, hq1, g1', g2', hlE]; omega)
        · refine RStep.on 2 false false (by simp) rfl (by decide +kernel) rfl (fun h => absurd rfl h) (fun _ => ?_); intro a' W hfr hdep hG; have d1 : a'.eval (.tmp 64) = .bool true := hdep 7 (by decide +kernel); have d2 : a'.eval (.tmp 74) = .bool true := hdep 17 (by decide +kernel); exact F_pick rfl (b := true) d1 (by simpa using d2) trivial (RBel.refl _ _)
        · refine RStep.on 2 false false (by simp) rfl (by decide +kernel) rfl (fun h => absurd rfl h) (fun _ => ?_); intro a' W hfr hdep hG; have d1 : a'.eval (.tmp 75) = .bool true := hdep 18 (by decide +kernel); exact F_move rfl d1 trivial (RBel.refl _ _)
        · refine RStep.on 19 true true (by simp) rfl (by decide +kernel) rfl (fun h => absurd rfl h) (fun _ => ?_); intro a' W hfr hdep hG; have d1 : a'.eval (.tmp 2) = .int .u32 (eh : Int) := hfr 2 (by decide +kernel); exact F_move rfl d1 trivial (RBel.refl _ _)
        · refine RStep.on 19 true true (by simp) rfl (by decide +kernel) rfl (fun h => absurd rfl h) (fun _ => ?_); intro a' W hfr hdep hG; have d1 : a'.eval (.tmp 77) = .int .u32 (eh : Int) := hdep 20 (by decide +kernel); refine F_val (v := .int .i64 (eh : Int)) ?_ trivial (RBel.refl _ _); simp only [execOp, d1]; first | (simp [go_sem, Act.eval, hq1, g1', g2', hlE]; done) | (simp [go_sem, Act.eval, hq1, g1', g2', hlE]; rw [IntKind.wrap_i64]; omega) | (simp [go_sem, Act.eval, hq1, g1', g2', hlE]; omega)
        · refine RStep.on 19 true true (by simp) rfl (by decide +kernel) rfl (fun h => absurd rfl h) (fun _ => ?_); intro a' W hfr hdep hG; have d1 : a'.eval (.tmp 8) = .slice A3 n3 c3 := hfr 8 (by decide +kernel); exact F_move rfl d1 trivial (RBel.refl _ _)
        · refine RStep.on 19 true true (by simp) rfl (by decide +kernel) rfl (fun h => absurd rfl h) (fun _ => ?_); intro a' W hfr hdep hG; have d1 : a'.eval (.tmp 79) = .slice A3 n3 c3 := hdep 22 (by decide +kernel); exact F_len rfl d1 trivial (RBel.refl _ _)
        · refine RStep.on 19 true true (by simp) rfl (by decide +kernel) rfl (fun h => absurd rfl h) (fun _ => ?_); intro a' W hfr hdep hG; have d1 : a'.eval (.tmp 78) = .int .i64 (eh : Int) := hdep 21 (by decide +kernel); have d2 : a'.eval (.tmp 80) = .int .i64 (n3 : Int) := hdep 23 (by decide +kernel); refine F_val (v := .bool true) ?_ trivial (RBel.refl _ _); simp only [execOp, d1, d2]; first | (simp [go_sem, Act.eval, hq1, g1', g2', hlE]; done) | (simp [go_sem, Act.eval, hq1, g1', g2', hlE]; rw [IntKind.wrap_i64]; omega) | (simp [go_sem, Act.eval, hq1, g1', g2', hlE]; omega)
        · refine RStep.on 2 false false (by simp) rfl (by decide +kernel) rfl (fun h => absurd rfl h) (fun _ => ?_); intro a' W hfr hdep hG; have d1 : a'.eval (.tmp 76) = .bool true := hdep 19 (by decide +kernel); have d2 : a'.eval (.tmp 81) = .bool true := hdep 24 (by decide +kernel); exact F_pick rfl (b := true) d1 (by simpa using d2) trivial (RBel.refl _ _)
        · refine RStep.run (by simp) rfl ?_; intro a' W hfr hdep hG; have d1 : a'.eval (.tmp 59) = .bool false := hdep 2 (by decide +kernel); have d2 : a'.eval (.tmp 82) = .bool true := hdep 25 (by decide +kernel); exact F_pick rfl (b := false) d1 (by simpa using d2) trivial (RBel.refl _ _)
        · refine RStep.run (by simp) rfl ?_; intro a' W hfr hdep hG; have d1 : a'.eval (.tmp 83) = .bool true := hdep 26 (by decide +kernel); exact F_move rfl d1 trivial (RBel.refl _ _)
        · refine RStep.on 27 true true (by simp) rfl (by decide +kernel) rfl (fun h => absurd rfl h) (fun _ => ?_); intro a' W hfr hdep hG; have d1 : a'.eval (.tmp 2) = .int .u32 (eh : Int) := hfr 2 (by decide +kernel); exact F_move rfl d1 trivial (RBel.refl _ _)
        · refine RStep.on 27 true true (by simp) rfl (by decide +kernel) rfl (fun h => absurd rfl h) (fun _ => ?_); intro a' W hfr hdep hG; have d1 : a'.eval (.tmp 9) = .pointer (some ⟨ib, 0, none⟩) := hfr 9 (by decide +kernel); refine F_val (v := .pointer (some ⟨ib, 3, none⟩)) ?_ trivial (RBel.refl _ _); simp only [execOp, d1]; first | (simp [go_sem, Act.eval, hq1, g1', g2', hlE]; done) | (simp [go_sem, Act.eval, hq1, g1', g2', hlE]; rw [IntKind.wrap_i64]; omega) | (simp [go_sem, Act.eval, hq1, g1', g2', hlE]; omega)
        · refine RStep.on 27 true true (by simp) rfl (by decide +kernel) rfl (fun h => absurd rfl h) (fun _ => ?_); intro a' W hfr hdep hG; have d1 : a'.eval (.tmp 86) = .pointer (some ⟨ib, 3, none⟩) := hdep 29 (by decide +kernel); exact F_load rfl d1 (load_u32R ((HE.out.2.1 W hG).1.cell 3)) trivial (RBel.refl _ _)
        · refine RStep.on 27 true true (by simp) rfl (by decide +kernel) rfl (fun h => absurd rfl h) (fun _ => ?_); intro a' W hfr hdep hG; have d1 : a'.eval (.tmp 85) = .int .u32 (eh : Int) := hdep 28 (by decide +kernel); have d2 : a'.eval (.tmp 87) = .int .u32 (hd : Int) := hdep 30 (by decide +kernel); refine F_val (v := .bool true) ?_ trivial (RBel.refl _ _); simp only [execOp, d1, d2]; first | (simp [go_sem, Act.eval, hq1, g1', g2', hlE]; done) | (simp [go_sem, Act.eval, hq1, g1', g2', hlE]; rw [IntKind.wrap_i64]; omega) | (simp [go_sem, Act.eval, hq1, g1', g2', hlE]; omega)
        · refine RStep.on 27 true true (by simp) rfl (by decide +kernel) rfl (fun h => absurd rfl h) (fun _ => ?_); intro a' W hfr hdep hG; have d1 : a'.eval (.tmp 88) = .bool true := hdep 31 (by decide +kernel); exact F_move rfl d1 trivial (RBel.refl _ _)
        · exact ⟨fun e => absurd e (by simp), .inl ⟨32, false, rfl, by decide +kernel, (by show (.bool true : Value) ≠ .bool false; intro h; cases h), rfl, fun _ => trivial⟩⟩
        · exact ⟨fun e => absurd e (by simp), .inl ⟨32, false, rfl, by decide +kernel, (by show (.bool true : Value) ≠ .bool false; intro h; cases h), rfl, fun _ => trivial⟩⟩
        · refine RStep.on 27 true true (by simp) rfl (by decide +kernel) rfl (fun h => absurd rfl h) (fun _ => ?_); intro a' W hfr hdep hG; have d1 : a'.eval (.tmp 89) = .bool true := hdep 32 (by decide +kernel); exact F_pick rfl (b := true) d1 (by rfl) trivial (RBel.refl _ _)
        · refine RStep.run (by simp) rfl ?_; intro a' W hfr hdep hG; have d1 : a'.eval (.tmp 84) = .bool true := hdep 27 (by decide +kernel); have d2 : a'.eval (.tmp 92) = .bool true := hdep 35 (by decide +kernel); exact F_pick rfl (b := true) d1 (by simpa using d2) trivial (RBel.refl _ _)
        · refine RStep.run (by simp) rfl ?_; intro a' W hfr hdep hG; have d1 : a'.eval (.tmp 93) = .bool true := hdep 36 (by decide +kernel); exact F_move rfl d1 trivial (RBel.refl _ _)
        · refine RStep.on 37 true true (by simp) rfl (by decide +kernel) rfl (fun h => absurd rfl h) (fun _ => ?_); intro a' W hfr hdep hG; refine F_call rfl Tryd.func12 rfl (by decide) (args := #[]) (by simp) (works_any W) ?_; rintro e w' ⟨rfl, hs'⟩; exact ⟨rfl, trivial, fun h => h.trans (hs'.mono h.size)⟩
        · refine RStep.run (by simp) rfl ?_; intro a' W hfr hdep hG; have d1 : a'.eval (.tmp 94) = .bool true := hdep 37 (by decide +kernel); have d2 : a'.eval (.tmp 95) = .bool true := hdep 38 (by decide +kernel); exact F_pick rfl (b := true) d1 (by simpa using d2) trivial (RBel.refl _ _)
        · refine RStep.run (by simp) rfl ?_; intro a' W hfr hdep hG; have d1 : a'.eval (.tmp 96) = .bool true := hdep 39 (by decide +kernel); exact F_assign rfl d1 trivial (RBel.refl _ _)
        intro a' wz hdd hsz hfr hG hsl
        have e := act_of_slots (fun i => ([.int .i64 0, .bool false, .bool false, .pointer (some ⟨jc, 3, none⟩), .int .u32 (eh : Int), .int .u32 (eh : Int), .bool true, .bool true, .int .u32 (eh : Int), .int .i64 (eh : Int), .agg #[.bool pl, .int .i64 (ck : Int), .int .i64 (dr : Int), .int .u32 (hd : Int), .slice A4 m4 f4, .int .u32 (tb : Int), .int .u32 (ln : Int), .slice A7 m7 f7], .int .i64 ((dr : Int) + 96), .pointer (some ⟨xb, 3, none⟩), .slice A6 n6 c6, .int .i64 (n6 : Int), .int .i64 (40 * (n6 : Int)), .int .i64 ((dr : Int) + 96 + 40 * (n6 : Int)), .bool true, .bool true, .bool true, .int .u32 (eh : Int), .int .i64 (eh : Int), .slice A3 n3 c3, .int .i64 (n3 : Int), .bool true, .bool true, .bool true, .bool true, .int .u32 (eh : Int), .pointer (some ⟨ib, 3, none⟩), .int .u32 (hd : Int), .bool true, .bool true, undef, undef, .bool true, .bool true, .bool true, .bool true, .bool true, .bool true] : List Value).getD i undef) (by show dstsOk _ 97 = true; decide +kernel) hdd hsz hfr (fun i hi => (hsl i hi).1)
        have HZ := Lib.hid hG
        clear hdd hsz hfr hsl hG
        have hrg : List.range 41 = [0, 1, 2, 3, 4, 5, 6, 7, 8, 9, 10, 11, 12, 13, 14, 15, 16, 17, 18, 19, 20, 21, 22, 23, 24, 25, 26, 27, 28, 29, 30, 31, 32, 33, 34, 35, 36, 37, 38, 39, 40] := rfl
        simp only [layAll, List.map_cons, List.map_nil, List.size_toArray, List.length_cons, List.length_nil, Nat.reduceAdd, hrg, List.zip_cons_cons, List.zip_nil_left, List.foldl_cons, List.foldl_nil, List.getD_cons_zero, List.getD_cons_succ, Act.put, List.setIfInBounds_toArray, List.set_cons_zero, List.set_cons_succ] at e
        subst e
        clear hrg
        apply_assumption
        (repeat (rename_i x; clear x))
        go_wp2_with fail
        go_ret
        exact ⟨rfl, HE.out.1.trans (HZ.out.mono HE.out.1.size)⟩
    · have he0 : ((erE : Int) != 0) = true := by simp; omega
      have hq1 : ((hh : Int) != hd) = true := by have := HC.out.1; simp; omega
      go_upto_region 12 with fail
      refine wp_region_facts (fun i => ([.int .i64 (erE : Int), .bool true, .bool true, undef, undef, undef, undef, undef, undef, undef, undef, undef, undef, undef, undef, undef, undef, undef, undef, undef, undef, undef, undef, undef, undef, undef, .bool true, .bool true, .int .u32 (hh : Int), .pointer (some ⟨ib, 3, none⟩), .int .u32 (hd : Int), .bool true, .bool true, undef, undef, .bool true, .bool true, .bool true, .bool true, .bool true, .bool true] : List Value).getD i undef) (fun _ _ => True) (Below w9s.heap.size w9s) (RBel w9s)
        rfl (fun _ => RBel.refl _ _) (fun _ _ h k => k h) (fun _ _ _ _ _ => trivial) (by show dstsOk _ 97 = true; decide +kernel) (by decide +kernel) (Below.refl w9s.heap.size w9s).drew ⟨?_, ?_, ?_, ?_, ?_, ?_, ?_, ?_, ?_, ?_, ?_, ?_, ?_, ?_, ?_, ?_, ?_, ?_, ?_, ?_, ?_, ?_, ?_, ?_, ?_, ?_, ?_, ?_, ?_, ?_, ?_, ?_, ?_, ?_, ?_, ?_, ?_, ?_, ?_, ?_, ?_, trivial⟩ ?_
      · refine RStep.run (by simp) rfl ?_; intro a' W hfr hdep hG; have d1 : a'.eval (.tmp 16) = .int .i64 (erE : Int) := hfr 16 (by decide +kernel); exact F_move rfl d1 trivial (RBel.refl _ _)
      · refine RStep.run (by simp) rfl ?_; intro a' W hfr hdep hG; have d1 : a'.eval (.tmp 57) = .int .i64 (erE : Int) := hdep 0 (by decide +kernel); refine F_val (v := .bool true) ?_ trivial (RBel.refl _ _); simp only [execOp, d1]; first | (simp [go_sem, Act.eval, hq1, he0]; done) | (simp [go_sem, Act.eval, hq1, he0]; rw [IntKind.wrap_i64]; omega) | (simp [go_sem, Act.eval, hq1, he0]; omega)
      · refine RStep.run (by simp) rfl ?_; intro a' W hfr hdep hG; have d1 : a'.eval (.tmp 58) = .bool true := hdep 1 (by decide +kernel); exact F_move rfl d1 trivial (RBel.refl _ _)
      · exact ⟨fun e => absurd e (by simp), .inl ⟨2, false, rfl, by decide +kernel, (by show (.bool true : Value) ≠ .bool false; intro h; cases h), rfl, fun _ => trivial⟩⟩
      · exact ⟨fun e => absurd e (by simp), .inl ⟨2, false, rfl, by decide +kernel, (by show (.bool true : Value) ≠ .bool false; intro h; cases h), rfl, fun _ => trivial⟩⟩
      · exact ⟨fun e => absurd e (by simp), .inl ⟨2, false, rfl, by decide +kernel, (by show (.bool true : Value) ≠ .bool false; intro h; cases h), rfl, fun _ => trivial⟩⟩
      · exact ⟨fun e => absurd e (by simp), .inl ⟨2, false, rfl, by decide +kernel, (by show (.bool true : Value) ≠ .bool false; intro h; cases h), rfl, fun _ => trivial⟩⟩
      · exact ⟨fun e => absurd e (by simp), .inl ⟨2, false, rfl, by decide +kernel, (by show (.bool true : Value) ≠ .bool false; intro h; cases h), rfl, fun _ => trivial⟩⟩
      · exact ⟨fun e => absurd e (by simp), .inl ⟨7, true, rfl, by decide +kernel, (by show (undef : Value) ≠ .bool true; intro h; cases h), rfl, fun _ => trivial⟩⟩
      · exact ⟨fun e => absurd e (by simp), .inl ⟨7, true, rfl, by decide +kernel, (by show (undef : Value) ≠ .bool true; intro h; cases h), rfl, fun _ => trivial⟩⟩
      · exact ⟨fun e => absurd e (by simp), .inl ⟨7, true, rfl, by decide +kernel, (by show (undef : Value) ≠ .bool true; intro h; cases h), rfl, fun _ => trivial⟩⟩
      · exact ⟨fun e => absurd e (by simp), .inl ⟨7, true, rfl, by decide +kernel, (by show (undef : Value) ≠ .bool true; intro h; cases h), rfl, fun _ => trivial⟩⟩
      · exact ⟨fun e => absurd e (by simp), .inl ⟨7, true, rfl, by decide +kernel, (by show (undef : Value) ≠ .bool true; intro h; cases h), rfl, fun _ => trivial⟩⟩
      · exact ⟨fun e => absurd e (by simp), .inl ⟨7, true, rfl, by decide +kernel, (by show (undef : Value) ≠ .bool true; intro h; cases h), rfl, fun _ => trivial⟩⟩
      · exact ⟨fun e => absurd e (by simp), .inl ⟨7, true, rfl, by decide +kernel, (by show (undef : Value) ≠ .bool true; intro h; cases h), rfl, fun _ => trivial⟩⟩
      · exact ⟨fun e => absurd e (by simp), .inl ⟨7, true, rfl, by decide +kernel, (by show (undef : Value) ≠ .bool true; intro h; cases h), rfl, fun _ => trivial⟩⟩
      · exact ⟨fun e => absurd e (by simp), .inl ⟨7, true, rfl, by decide +kernel, (by show (undef : Value) ≠ .bool true; intro h; cases h), rfl, fun _ => trivial⟩⟩
      · exact ⟨fun e => absurd e (by simp), .inl ⟨7, true, rfl, by decide +kernel, (by show (undef : Value) ≠ .bool true; intro h; cases h), rfl, fun _ => trivial⟩⟩
      · exact ⟨fun e => absurd e (by simp), .inl ⟨2, false, rfl, by decide +kernel, (by show (.bool true : Value) ≠ .bool false; intro h; cases h), rfl, fun _ => trivial⟩⟩
      · exact ⟨fun e => absurd e (by simp), .inl ⟨2, false, rfl, by decide +kernel, (by show (.bool true : Value) ≠ .bool false; intro h; cases h), rfl, fun _ => trivial⟩⟩
      · exact ⟨fun e => absurd e (by simp), .inl ⟨19, true, rfl, by decide +kernel, (by show (undef : Value) ≠ .bool true; intro h; cases h), rfl, fun _ => trivial⟩⟩
      · exact ⟨fun e => absurd e (by simp), .inl ⟨19, true, rfl, by decide +kernel, (by show (undef : Value) ≠ .bool true; intro h; cases h), rfl, fun _ => trivial⟩⟩
      · exact ⟨fun e => absurd e (by simp), .inl ⟨19, true, rfl, by decide +kernel, (by show (undef : Value) ≠ .bool true; intro h; cases h), rfl, fun _ => trivial⟩⟩
      · exact ⟨fun e => absurd e (by simp), .inl ⟨19, true, rfl, by decide +kernel, (by show (undef : Value) ≠ .bool true; intro h; cases h), rfl, fun _ => trivial⟩⟩
      · exact ⟨fun e => absurd e (by simp), .inl ⟨19, true, rfl, by decide +kernel, (by show (undef : Value) ≠ .bool true; intro h; cases h), rfl, fun _ => trivial⟩⟩
      · exact ⟨fun e => absurd e (by simp), .inl ⟨2, false, rfl, by decide +kernel, (by show (.bool true : Value) ≠ .bool false; intro h; cases h), rfl, fun _ => trivial⟩⟩
      · refine RStep.run (by simp) rfl ?_; intro a' W hfr hdep hG; have d1 : a'.eval (.tmp 59) = .bool true := hdep 2 (by decide +kernel); exact F_pick rfl (b := true) d1 (by rfl) trivial (RBel.refl _ _)
      · refine RStep.run (by simp) rfl ?_; intro a' W hfr hdep hG; have d1 : a'.eval (.tmp 83) = .bool true := hdep 26 (by decide +kernel); exact F_move rfl d1 trivial (RBel.refl _ _)
      · refine RStep.on 27 true true (by simp) rfl (by decide +kernel) rfl (fun h => absurd rfl h) (fun _ => ?_); intro a' W hfr hdep hG; have d1 : a'.eval (.tmp 2) = .int .u32 (hh : Int) := hfr 2 (by decide +kernel); exact F_move rfl d1 trivial (RBel.refl _ _)
      · refine RStep.on 27 true true (by simp) rfl (by decide +kernel) rfl (fun h => absurd rfl h) (fun _ => ?_); intro a' W hfr hdep hG; have d1 : a'.eval (.tmp 9) = .pointer (some ⟨ib, 0, none⟩) := hfr 9 (by decide +kernel); refine F_val (v := .pointer (some ⟨ib, 3, none⟩)) ?_ trivial (RBel.refl _ _); simp only [execOp, d1]; first | (simp [go_sem, Act.eval, hq1, he0]; done) | (simp [go_sem, Act.eval, hq1, he0]; rw [IntKind.wrap_i64]; omega) | (simp [go_sem, Act.eval, hq1, he0]; omega)
      · refine RStep.on 27 true true (by simp) rfl (by decide +kernel) rfl (fun h => absurd rfl h) (fun _ => ?_); intro a' W hfr hdep hG; have d1 : a'.eval (.tmp 86) = .pointer (some ⟨ib, 3, none⟩) := hdep 29 (by decide +kernel); exact F_load rfl d1 (load_u32R ((HE.out.2.1 W hG).1.cell 3)) trivial (RBel.refl _ _)
      · refine RStep.on 27 true true (by simp) rfl (by decide +kernel) rfl (fun h => absurd rfl h) (fun _ => ?_); intro a' W hfr hdep hG; have d1 : a'.eval (.tmp 85) = .int .u32 (hh : Int) := hdep 28 (by decide +kernel); have d2 : a'.eval (.tmp 87) = .int .u32 (hd : Int) := hdep 30 (by decide +kernel); refine F_val (v := .bool true) ?_ trivial (RBel.refl _ _); simp only [execOp, d1, d2]; first | (simp [go_sem, Act.eval, hq1, he0]; done) | (simp [go_sem, Act.eval, hq1, he0]; rw [IntKind.wrap_i64]; omega) | (simp [go_sem, Act.eval, hq1, he0]; omega)
      · refine RStep.on 27 true true (by simp) rfl (by decide +kernel) rfl (fun h => absurd rfl h) (fun _ => ?_); intro a' W hfr hdep hG; have d1 : a'.eval (.tmp 88) = .bool true := hdep 31 (by decide +kernel); exact F_move rfl d1 trivial (RBel.refl _ _)
      · exact ⟨fun e => absurd e (by simp), .inl ⟨32, false, rfl, by decide +kernel, (by show (.bool true : Value) ≠ .bool false; intro h; cases h), rfl, fun _ => trivial⟩⟩
      · exact ⟨fun e => absurd e (by simp), .inl ⟨32, false, rfl, by decide +kernel, (by show (.bool true : Value) ≠ .bool false; intro h; cases h), rfl, fun _ => trivial⟩⟩
      · refine RStep.on 27 true true (by simp) rfl (by decide +kernel) rfl (fun h => absurd rfl h) (fun _ => ?_); intro a' W hfr hdep hG; have d1 : a'.eval (.tmp 89) = .bool true := hdep 32 (by decide +kernel); exact F_pick rfl (b := true) d1 (by rfl) trivial (RBel.refl _ _)
      · refine RStep.run (by simp) rfl ?_; intro a' W hfr hdep hG; have d1 : a'.eval (.tmp 84) = .bool true := hdep 27 (by decide +kernel); have d2 : a'.eval (.tmp 92) = .bool true := hdep 35 (by decide +kernel); exact F_pick rfl (b := true) d1 (by simpa using d2) trivial (RBel.refl _ _)
      · refine RStep.run (by simp) rfl ?_; intro a' W hfr hdep hG; have d1 : a'.eval (.tmp 93) = .bool true := hdep 36 (by decide +kernel); exact F_move rfl d1 trivial (RBel.refl _ _)
      · refine RStep.on 37 true true (by simp) rfl (by decide +kernel) rfl (fun h => absurd rfl h) (fun _ => ?_); intro a' W hfr hdep hG; refine F_call rfl Tryd.func12 rfl (by decide) (args := #[]) (by simp) (works_any W) ?_; rintro e w' ⟨rfl, hs'⟩; exact ⟨rfl, trivial, fun h => h.trans (hs'.mono h.size)⟩
      · refine RStep.run (by simp) rfl ?_; intro a' W hfr hdep hG; have d1 : a'.eval (.tmp 94) = .bool true := hdep 37 (by decide +kernel); have d2 : a'.eval (.tmp 95) = .bool true := hdep 38 (by decide +kernel); exact F_pick rfl (b := true) d1 (by simpa using d2) trivial (RBel.refl _ _)
      · refine RStep.run (by simp) rfl ?_; intro a' W hfr hdep hG; have d1 : a'.eval (.tmp 96) = .bool true := hdep 39 (by decide +kernel); exact F_assign rfl d1 trivial (RBel.refl _ _)
      intro a' wz hdd hsz hfr hG hsl
      have e := act_of_slots (fun i => ([.int .i64 (erE : Int), .bool true, .bool true, undef, undef, undef, undef, undef, undef, undef, undef, undef, undef, undef, undef, undef, undef, undef, undef, undef, undef, undef, undef, undef, undef, undef, .bool true, .bool true, .int .u32 (hh : Int), .pointer (some ⟨ib, 3, none⟩), .int .u32 (hd : Int), .bool true, .bool true, undef, undef, .bool true, .bool true, .bool true, .bool true, .bool true, .bool true] : List Value).getD i undef) (by show dstsOk _ 97 = true; decide +kernel) hdd hsz hfr (fun i hi => (hsl i hi).1)
      have HZ := Lib.hid hG
      clear hdd hsz hfr hsl hG
      have hrg : List.range 41 = [0, 1, 2, 3, 4, 5, 6, 7, 8, 9, 10, 11, 12, 13, 14, 15, 16, 17, 18, 19, 20, 21, 22, 23, 24, 25, 26, 27, 28, 29, 30, 31, 32, 33, 34, 35, 36, 37, 38, 39, 40] := rfl
      simp only [layAll, List.map_cons, List.map_nil, List.size_toArray, List.length_cons, List.length_nil, Nat.reduceAdd, hrg, List.zip_cons_cons, List.zip_nil_left, List.foldl_cons, List.foldl_nil, List.getD_cons_zero, List.getD_cons_succ, Act.put, List.setIfInBounds_toArray, List.set_cons_zero, List.set_cons_succ] at e
      subst e
      clear hrg
      apply_assumption
      (repeat (rename_i x; clear x))
      go_wp2_with fail
      go_ret
      exact ⟨rfl, HE.out.1.trans (HZ.out.mono HE.out.1.size)⟩
end Go.Proofs.YtlfajfmkljnodaaDoor
