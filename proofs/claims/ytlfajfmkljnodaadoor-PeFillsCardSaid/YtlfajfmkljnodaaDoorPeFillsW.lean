/- The walk of the law PeFills. -/
import Derived.Test.YtlfajfmkljnodaaDoorPeWorks
import Derived.Test.YtlfajfmkljnodaaDoorPeFr
import Derived.Test.YtlfajfmkljnodaaDoorPeLaid
import Derived.Test.YtlfajfmkljnodaaDoorPeRGet
import Derived.Test.YtlfajfmkljnodaaDoorPeFill0
namespace Go.Proofs.YtlfajfmkljnodaaDoor
open Go.RowKit
set_option maxRecDepth 100000
set_option linter.unusedVariables false
set_option linter.unusedSimpArgs false
set_option maxHeartbeats 8000000 in
theorem peFills_walk (w : World) (V : ShV) (s : Pe.Shape) (h : ShRd w w.heap.size V s) (a1 : Int) (h1 : (Lit.int .u16 a1).wf = true) (a2 : Int) (h2 : (Lit.int .u8 a2).wf = true) :
    Calls Tryd.prog 10 #[.agg V.cells, .int .u16 a1, .int .u8 a2] w fun e w' => e = .returned (.bool true) ∧ Below w.heap.size w w' := by
  obtain ⟨m1, rfl, hm1⟩ : ∃ m : Nat, a1 = (m : Int) ∧ m < 65536 := by
    have e1 : IntKind.u16.min = 0 := rfl
    have e2 : IntKind.u16.max = 65535 := rfl
    simp only [Lit.wf, Bool.and_eq_true, decide_eq_true_eq] at h1
    exact ⟨a1.toNat, by omega, by omega⟩
  clear h1
  obtain ⟨m2, rfl, hm2⟩ : ∃ m : Nat, a2 = (m : Int) ∧ m < 256 := by
    have e1 : IntKind.u8.min = 0 := rfl
    have e2 : IntKind.u8.max = 255 := rfl
    simp only [Lit.wf, Bool.and_eq_true, decide_eq_true_eq] at h2
    exact ⟨a2.toNat, by omega, by omega⟩
  clear h2
  obtain ⟨v, rfl⟩ : ∃ v : UInt8, v.toNat = m2 := ⟨UInt8.ofNat m2, by rw [UInt8.toNat_ofNat', Nat.mod_eq_of_lt (by omega)]⟩
  have hB0 : Bs (w.alloc (.cells V.cells 39)) w.heap.size V := Blk.new _ _ _
  have hbw0 : Below w.heap.size w (w.alloc (.cells V.cells 39)) := below_one w _
  have hr0 : ShRd (w.alloc (.cells V.cells 39)) (w.alloc (.cells V.cells 39)).heap.size V s := (h.below hbw0).more (by simp)
  obtain ⟨W0, hW0⟩ : ∃ W0, w.alloc (.cells V.cells 39) = W0 := ⟨_, rfl⟩
  rw [hW0] at hB0 hbw0 hr0
  have H := Lib.hid (And.intro hB0 (And.intro hr0 (And.intro hbw0 hW0)))
  clear h hB0 hr0 hbw0 hW0
  go_enter Tryd.func10, Tryd.ntmps10
  go_upto_region 1 with fail
  rw [H.out.2.2.2]
  go_wp2_with (first
    | ((with_reducible refine at_load_sh ?_); refine wpList_load_sh rfl _ rfl w.heap.size V rfl H.out.1 ?_)
    | fail)
  refine (brought_any V s W0 H.out.2.1).mono ?_
  rintro e w1 ⟨V1, rfl, hr1, hb1⟩
  have ho0 := Pe.brought_ok s
  have hol := Pe.order_len s
  obtain ⟨S0, hS0⟩ : ∃ S, Pe.brought s = S := ⟨_, rfl⟩
  rw [hS0] at hr1 ho0 hol
  have HN0 := Lib.hid (And.intro ho0 (And.intro hol hS0))
  clear ho0 hol hS0
  have hbw1 := H.out.2.2.1.trans (hb1.mono H.out.2.2.1.size)
  have H1 := Lib.hid (And.intro hr1 (And.intro hbw1 hr1.one))
  clear hr1 hb1 hbw1
  go_upto_region 2 with (first
    | ((with_reducible refine at_store_sh ?_); refine wpList_store_sh rfl _ _ rfl w1.heap.size ShV.zero V1 rfl rfl (Blk.new w1 _ _) H1.out.2.2 ?_; intro w2 hB2 hg2)
    | fail)
  have hb12 : Below w1.heap.size w1 w2 := (below_one w1 _).grown hg2 (by simp) (fun k e => by injection e with e; omega)
  have hr2 : ShRd w2 w1.heap.size V1 S0 := H1.out.1.below hb12
  have hbw2 := H1.out.2.1.trans (hb12.mono H1.out.2.1.size)
  have hx2 : w1.heap.size < w2.heap.size := hB2.lt
  obtain ⟨xb, hxb⟩ : ∃ xb, w1.heap.size = xb := ⟨_, rfl⟩
  have hxw : w.heap.size ≤ w1.heap.size := H1.out.2.1.size
  rw [hxb] at hB2 hx2 hr2 hxw ⊢
  have H2 := Lib.hid (And.intro hB2 (And.intro hr2 hbw2))
  clear hB2 hg2 hb12 hr2 hbw2 H1 hxb
  obtain ⟨A6, n6, c6, l6, e6, r6, hl6⟩ := H2.out.2.1.sigs
  have hn6 : S0.sigs.length = n6 := by rw [← hl6, List.length_map]; exact r6.len
  have k6 : w2.cell? ⟨xb, 6, none⟩ = some (.slice A6 n6 c6) := (H2.out.1.cell 6).trans (by rw [← e6]; rfl)
  by_cases h0 : n6 = 0
  · subst h0
    clear r6 hl6 hn6 e6
    go_wp2_with fail
    refine (works_any w2).mono ?_
    rintro e w11 ⟨rfl, hb11⟩
    have H11 := Lib.hid (H2.out.2.2.trans (hb11.mono H2.out.2.2.size))
    clear hb11
    go_wp2_with fail
    go_ret
    exact ⟨rfl, H11.out⟩
  · have h0' : ((n6 : Int) == 0) = false := by simp; omega
    have h0i : (1 : Int) ≤ n6 := by omega
    obtain ⟨rl, run1, run2⟩ := run_uptoL r6 1 1 rfl (by omega) (by omega)
    obtain ⟨bs, os, Ag, ng, cg, g, rfl, hbs, hlk, kg, hrg⟩ := r6.get (k := 0) (by omega)
    have hlg := hrg.len
    have f6 : w2.frozen? ⟨xb, 6, none⟩ = false := H2.out.1.frozen 6
    have hgm : g ∈ S0.sigs := by rw [← hl6]; exact List.mem_map.2 ⟨_, List.mem_of_getElem? hlk, rfl⟩
    have hl1 : l6.take 1 = [(.slice Ag ng cg, g)] := by
      cases l6 with
      | nil => simp at hlk
      | cons q r => simp at hlk; rw [hlk]; rfl
    rw [hl1] at rl
    obtain ⟨V2, hV2⟩ : ∃ V2 : ShV, (⟨V1.plus, V1.stub, V1.fill, V1.bodies, V1.order, V1.behind, .slice (some ⟨bs, os, none⟩) 1 c6⟩ : ShV) = V2 := ⟨_, rfl⟩
    obtain ⟨S, hS⟩ : ∃ S, S0.first g = S := ⟨_, rfl⟩
    have ho : S.Ok := by rw [← hS]; exact Pe.first_ok HN0.out.1 hgm
    have hol : S.order.length ≤ 1000 := by rw [← hS]; exact HN0.out.2.1
    have hsg : S.sigs = [g] := by rw [← hS]; rfl
    have hread := Pe.Shape.write_read ho
    obtain ⟨he0, hi0⟩ := Pe.read_err hread ho (by rw [hsg]; show 1 ≤ 8; omega)
    have hsm := S.write_small ho
    obtain ⟨b, hb⟩ : ∃ b, Pe.write S = b := ⟨_, rfl⟩
    rw [hb] at hread he0 hi0 hsm
    obtain ⟨hg1, hg2⟩ := ho.each g (by rw [hsg]; exact List.mem_singleton.2 rfl)
    have hfl := hread.fill_len ho hsg
    have HN := Lib.hid (And.intro ho (And.intro hread (And.intro he0 (And.intro hi0 (And.intro hb (And.intro hol hsg))))))
    clear ho hread he0 hi0 hb hol
    obtain ⟨w2b, hw2b⟩ : ∃ x, w2.setCell ⟨xb, 6, none⟩ (.slice (some ⟨bs, os, none⟩) 1 c6) = x := ⟨_, rfl⟩
    have hsz2 : w2b.heap.size = w2.heap.size := by rw [← hw2b]; simp
    have hB2b : Bs w2b xb V2 := by
      rw [← hw2b, ← hV2]
      exact H2.out.1.set_ 6 _
    have hkb : Below xb w2 w2b := by rw [← hw2b]; exact (Below.refl xb w2).grown (grownBy_set w2 ⟨xb, 6, none⟩ _) (Nat.le_of_lt hx2) (fun k e => by cases e; exact Nat.le_refl _)
    have hkeep : ∀ p : Addr, p.block < xb → w2b.cell? p = w2.cell? p := fun p hp => hkb.cell hp
    have hsh2 : ShRd w2b xb V2 S := by
      have h := H2.out.2.1.keep (w' := w2b) hkeep
      rw [← hV2, ← hS]
      exact ⟨h.plus, h.stub, h.fill, h.bodies, h.order, h.behind, ⟨_, _, _, _, rfl, rl.keep hkeep, rfl⟩⟩
    have hbw2b : Below w.heap.size w w2b := by rw [← hw2b]; exact H2.out.2.2.grown (grownBy_set w2 ⟨xb, 6, none⟩ _) H2.out.2.2.size (fun k e => by cases e; exact hxw)
    have hkg : w2b.cell? ⟨bs, os, none⟩ = some (.slice Ag ng cg) := (hkeep ⟨bs, os, none⟩ hbs).trans kg
    have HX := Lib.hid (And.intro hB2b (And.intro (show ShRd w2b w2b.heap.size V2 S from hsh2.more (by omega)) (And.intro hbw2b (And.intro hkg (And.intro hV2 hw2b)))))
    clear r6 hl6 hn6 e6 rl hlk kg hrg hgm hl1 hB2b hkb hkeep hsh2 hbw2b hkg hV2 hS
    go_upto_region 5 with fail
    clear run1 run2 k6 f6 hw2b
    have H2 := Lib.hid (And.intro HX.out.1 (And.intro HX.out.2.1 HX.out.2.2.1))
    obtain ⟨w2, hw22⟩ : ∃ x, x = w2b := ⟨_, rfl⟩
    subst hw22
    obtain ⟨V1, hV12⟩ : ∃ x, x = V2 := ⟨_, rfl⟩
    subst hV12
    have hx2 : xb < w2.heap.size := by omega
    go_wp2_with (first
      | ((with_reducible refine at_load_sh ?_); refine wpList_load_sh rfl _ rfl xb V1 rfl H2.out.1 ?_)
      | fail)
    refine (write_any V1 S w2 H2.out.2.1 HN.out.1 HN.out.2.2.2.2.2.1).mono ?_
    rw [HN.out.2.2.2.2.1]
    rintro e w3 ⟨A3, n3, c3, rfl, ho3, hb3⟩
    obtain ⟨_, _, _, e3, hr3⟩ := ho3.rd
    injection e3 with q1 q2 q3
    subst q1 q2 q3
    have hl3 := hr3.len
    have hbw3 := H2.out.2.2.trans (hb3.mono H2.out.2.2.size)
    have hB3 := H2.out.1.below hb3 hx2
    have hsh3 := (H2.out.2.1.below hb3).more hb3.size
    have hx3 : xb < w3.heap.size := hB3.lt
    have H3 := Lib.hid (And.intro hr3 (And.intro hB3 (And.intro hsh3 hbw3)))
    clear hr3 hb3 hbw3 hB3 hsh3 ho3 H2 hx2
    go_wp2_with fail
    refine (pe_parse_any A3 n3 c3 b w3 H3.out.1).mono ?_
    rintro e w4 ⟨hb4, C, rfl, hC, _, hok⟩
    have hI := hok HN.out.2.2.1
    rw [HN.out.2.2.1]
    have H4 := Lib.hid (And.intro hb4 (And.intro hC hI))
    clear hb4 hC hI hok
    go_upto_region 7 with (first
      | ((with_reducible refine at_store_img ?_); refine wpList_store_img rfl _ _ rfl w4.heap.size IV.zero C rfl rfl (Blk.new w4 _ _) H4.out.2.1 ?_; intro w5 hB5 hg5)
      | fail)
    have hb45 : Below w4.heap.size w4 w5 := (below_one w4 _).grown hg5 (by simp) (fun k e => by injection e with e; omega)
    have hb35 : Below w3.heap.size w3 w5 := H4.out.1.trans (hb45.mono H4.out.1.size)
    have hx5 : xb < w5.heap.size := Nat.lt_of_lt_of_le hx3 hb35.size
    have hi5 : w4.heap.size < w5.heap.size := hB5.lt
    obtain ⟨ib, hib⟩ : ∃ ib, w4.heap.size = ib := ⟨_, rfl⟩
    have hbw5 : Below w.heap.size w w5 := H3.out.2.2.2.trans (hb35.mono H3.out.2.2.2.size)
    have hI5 := H4.out.2.2.later hb45
    have hsn := hI5.sn HN.out.2.2.2.1
    have hF : ∀ W, Below w5.heap.size w5 W → Bs W xb V1 ∧ ShRd W w5.heap.size V1 S ∧ Rd W w5.heap.size A3 n3 c3 b ∧ Bi W ib C ∧ ImgOwn b C w3.heap.size W := fun W hW => by
      have h3W : Below w3.heap.size w3 W := hb35.trans (hW.mono hb35.size)
      exact ⟨H3.out.2.1.below h3W hx3, (H3.out.2.2.1.below h3W).more hb35.size, (H3.out.1.below h3W).more hb35.size, by rw [← hib]; exact hB5.below hW hi5, hI5.later hW⟩
    rw [hib] at hi5 ⊢
    have HF := Lib.hid hF
    have HB := Lib.hid (And.intro hbw5 (And.intro hsn H4.out.2.1))
    clear hF hbw5 hsn hI5 hB5 hg5 hb45 hb35 hx3 hib H3 H4
    obtain ⟨As, ns, cs, ls, es, rs, hls⟩ := (HF.out w5 (Below.refl _ _)).2.1.sigs
    have hns : ns = 1 := by
      have h1 := congrArg List.length hls
      rw [HN.out.2.2.2.2.2.2, List.length_map, rs.len] at h1
      exact h1
    subst hns
    have k6 : w5.cell? ⟨xb, 6, none⟩ = some (.slice As 1 cs) := ((HF.out w5 (Below.refl _ _)).1.cell 6).trans (by rw [← es]; rfl)
    obtain ⟨bb, bo, A', n', c', xs', rfl, hbb, hlk', kb, hrb⟩ := rs.get (k := 0) (by omega)
    have kb' : w5.cell? ⟨bb, bo, none⟩ = some (.slice A' n' c') := kb
    have hxg : xs' = g := by
      have h1 := congrArg (fun l => l[0]?) hls
      simp only [List.getElem?_map, hlk', HN.out.2.2.2.2.2.2] at h1
      simpa using h1
    subst hxg
    have hgl := hrb.len
    obtain ⟨l7, hs7, hl7⟩ := (HF.out w5 (Below.refl _ _)).2.2.2.2.sigs
    obtain ⟨A7, f7, e7, _⟩ := hs7.row.shape
    have h71 : l7.length = 1 := by
      have h1 : Pe.sigs b = S.sigs := congrArg Pe.Img.sigs HN.out.2.2.2.1
      have h2 := congrArg List.length hl7
      rw [h1, HN.out.2.2.2.2.2.2, List.length_map] at h2
      exact h2
    rw [h71] at e7
    have k7 : w5.cell? ⟨ib, 7, none⟩ = some (.slice A7 1 f7) := ((HF.out w5 (Below.refl _ _)).2.2.2.1.cell 7).trans (by show some C.sigs = _; rw [e7])
    obtain ⟨T, hT⟩ : ∃ T, S.from_ = T := ⟨_, rfl⟩
    have hCT : C.table = T := by rw [HB.out.2.1.table, HN.out.2.2.2.2.2.2, if_neg (by simp), hT]
    have k5 : w5.cell? ⟨ib, 5, none⟩ = some (.int .u32 (T : Int)) := by rw [← hCT]; exact (HF.out w5 (Below.refl _ _)).2.2.2.1.cell 5
    obtain ⟨U, hU⟩ : ∃ U, Pe.up (8 + xs'.length) = U := ⟨_, rfl⟩
    rw [hT, hU, hl3] at hfl
    rw [hgl] at hU hg1 hg2
    have hU1 : 8 + n' ≤ U := by rw [← hU]; unfold Pe.up; omega
    have hU2 : (8 + n') % 8 ≠ 0 → U = 8 + n' + (8 - (8 + n') % 8) := by intro h; rw [← hU]; unfold Pe.up; omega
    obtain ⟨q, hq⟩ : ∃ q, m1 % 4 = q := ⟨_, rfl⟩
    have hq4 : q < 4 := by omega
    have hmod : Int.tmod (m1 : Int) 4 = (q : Int) := by rw [← hq]; rfl
    obtain ⟨kd, hkd⟩ : ∃ k, T + 4 + q = k := ⟨_, rfl⟩
    have hki : (T : Int) + 4 + (q : Int) = (kd : Int) := by omega
    have hkl : kd < n3 := by omega
    have hnl : n3 ≤ 11100 := by omega
    have hki2 : (kd : Int) < n3 := by omega
    have hcz : IntKind.i64.wrap (T : Int) = (T : Int) := by rw [IntKind.wrap_i64]; omega
    have HT := Lib.hid (And.intro hT (And.intro hU2 (And.intro hgl hq)))
    have hfl1 : n3 ≤ T + U := by omega
    have hfl2 : T + U ≤ n3 := by omega
    clear hfl
    clear hT hU hU2 hgl hs7 hl7 h71 e7 hCT rs hls es hlk' hrb hsg hq
    go_wp2_with fail
    refine (copy_any A3 n3 c3 b w5 ((HF.out w5 (Below.refl w5.heap.size w5)).2.2.1.more (Below.refl w5.heap.size w5).size) (by omega)).mono ?_
    rintro e w6 ⟨X, nX, cX, rfl, how6, hbw6⟩
    obtain ⟨gX, capX, e, _, _⟩ := how6.1.form (by omega)
    injection e with ea en ec
    subst ea en ec
    rw [hl3] at how6 ⊢
    have hgX := how6.1.lt gX rfl
    have hb5w6 := (Below.refl w5.heap.size w5).trans (hbw6.mono (Below.refl w5.heap.size w5).size)
    have H6 := Lib.hid (And.intro how6 hb5w6)
    clear how6 hbw6 hb5w6
    obtain ⟨zzX, _, hzzX⟩ := H6.out.1.cellAt hl3 (j := kd) (by omega)
    have hfzX := H6.out.1.frozenAt hl3 kd
    have hstX := H6.out.1.stored hl3 kd v
    have hlowX : w5.heap.size ≤ gX := by have := H6.out.2.size; have := (Below.refl w5.heap.size w5).size; omega
    have hbsX : Below w5.heap.size w5 (w6.setCell ⟨gX, kd, none⟩ (.int .u8 (v.toNat : Int))) := H6.out.2.grown (grownBy_set w6 ⟨gX, kd, none⟩ _) H6.out.2.size (fun k e => by cases e; exact hlowX)
    obtain ⟨w7, hw7⟩ : ∃ x, w6.setCell ⟨gX, kd, none⟩ (.int .u8 (v.toNat : Int)) = x := ⟨_, rfl⟩
    rw [hw7] at hstX hbsX
    obtain ⟨c, hc⟩ : ∃ x, b.set kd v = x := ⟨_, rfl⟩
    rw [hc] at hstX
    obtain ⟨_, _, _, ec, hrc⟩ := hstX.rd
    injection ec with q1 q2 q3
    subst q1 q2 q3
    have hgwX : gX < w7.heap.size := by rw [← hw7]; first | (simp; done) | (simp; omega)
    have hrc' : Rd w7 w7.heap.size (some ⟨gX, 0, none⟩) n3 cX c := hrc.more (by rw [← hw7]; first | (simp; done) | (simp; omega))
    have H7 := Lib.hid (And.intro hrc' (And.intro hbsX (And.intro hc hw7)))
    clear hstX hbsX hrc hrc' hc hw7
    go_upto_region 14 with fail
    rw [H7.out.2.2.2]
    clear hzzX hfzX k5 k7
    go_wp2_with fail
    refine (pe_parse_any (some ⟨gX, 0, none⟩) n3 cX c w7 H7.out.1).mono ?_
    rintro e w9 ⟨hbw9, D, rfl, honeD, hzD, hokD⟩
    obtain ⟨erD, herD⟩ : ∃ er, Pe.err (c) = er := ⟨_, rfl⟩
    have HDD := Lib.hid (And.intro honeD (And.intro hokD (And.intro herD hbw9)))
    rw [herD]
    clear honeD hokD herD hbw9 hzD
    go_upto_region 15 with (first
      | ((with_reducible refine at_store_img ?_); refine wpList_store_img rfl _ _ rfl w9.heap.size IV.zero D rfl rfl (Blk.new w9 _ _) HDD.out.1 ?_; intro w9s hBs hgs)
      | fail)
    have hbs : Below w9.heap.size w9 w9s := (below_one w9 _).grown hgs (by simp) (fun k e => by injection e with e; omega)
    obtain ⟨jb, hjb⟩ : ∃ j, w9.heap.size = j := ⟨_, rfl⟩
    have hjl : w9.heap.size < w9s.heap.size := hBs.lt
    rw [hjb] at hBs hjl ⊢
    have HSD := Lib.hid (And.intro hBs (And.intro hbs (And.intro hjl hjb)))
    clear hBs hgs hbs hjl hjb
    have hb59 : Below w5.heap.size w5 w9s := H7.out.2.1.trans ((HDD.out.2.2.2.trans (HSD.out.2.1.mono HDD.out.2.2.2.size)).mono H7.out.2.1.size)
    have hend : Below w.heap.size w w9s := HB.out.1.trans (hb59.mono HB.out.1.size)
    obtain ⟨b3, o3, rfl, hb3l, hb3c⟩ := (HF.out w9s hb59).2.2.1.at_ (by omega)
    obtain ⟨x, hx⟩ : ∃ x, b[kd]? = some x := ⟨_, List.getElem?_eq_getElem (by omega)⟩
    have qx := hb3c kd x hx
    have hD : (erD = 0 ∧ v = x) ∨ (erD = 9 ∧ v ≠ x) := by
      by_cases hvx : v = x
      · subst hvx
        have e : b.set kd v = b := by
          apply List.ext_getElem?
          intro i
          rw [List.getElem?_set]
          split
          · rename_i h; subst h; rw [if_pos (by omega), hx]
          · rfl
        have h1 := H7.out.2.2.1
        rw [e] at h1
        have h2 := HDD.out.2.2.1
        rw [← h1, HN.out.2.2.1] at h2
        exact .inl ⟨h2.symm, rfl⟩
      · have h1 := HN.out.2.1.fill HN.out.1 HN.out.2.2.2.2.2.2 (k := kd) (v := v) (by rw [hx]; exact fun e => hvx (Option.some.inj e).symm) (.inl (by rw [HT.out.1]; omega))
        rw [H7.out.2.2.1, HDD.out.2.2.1] at h1
        exact .inr ⟨h1, hvx⟩
    have HE := Lib.hid (And.intro hend hb59)
    clear hend hb59 hb3c hx
    have hv0 : ∀ y : UInt8, v ≠ y → ((v.toNat : Int) == (y.toNat : Int)) = false := fun y h => by
      simp only [beq_eq_false_iff_ne, ne_eq]
      intro e
      exact h (UInt8.toNat_inj.1 (by omega))
    have HV := Lib.hid hv0
    clear hv0
    rcases hD with ⟨rfl, rfl⟩ | ⟨rfl, hvx⟩
    · clear kb kb' k6
      go_upto_region 17 with fail
      by_cases h8 : (8 + n') % 8 = 0
      · have hm8 : Int.tmod (8 + (n' : Int)) 8 = 0 := by rw [show (8 : Int) + (n' : Int) = ((8 + n' : Nat) : Int) from by omega, show Int.tmod ((8 + n' : Nat) : Int) 8 = (((8 + n') % 8 : Nat) : Int) from rfl, h8]; rfl
        go_wp2_with fail
        refine (works_any w9s).mono ?_
        rintro e w11 ⟨rfl, hb11⟩
        have H11 := Lib.hid (HE.out.1.trans (hb11.mono HE.out.1.size))
        clear hb11
        go_wp2_with fail
        go_ret
        exact ⟨rfl, H11.out⟩
      · obtain ⟨r8, hr8⟩ : ∃ r, (8 + n') % 8 = r := ⟨_, rfl⟩
        have hm8 : Int.tmod (8 + (n' : Int)) 8 = (r8 : Int) := by rw [show (8 : Int) + (n' : Int) = ((8 + n' : Nat) : Int) from by omega, show Int.tmod ((8 + n' : Nat) : Int) 8 = (((8 + n') % 8 : Nat) : Int) from rfl, hr8]
        have hr81 : ((r8 : Int) == 0) = false := by simp; omega
        obtain ⟨z, hz⟩ : ∃ z, 8 - r8 = z := ⟨_, rfl⟩
        have hzi : (8 : Int) - (r8 : Int) = (z : Int) := by omega
        have hz1 : 1 ≤ z ∧ z ≤ 7 := by omega
        have hz0 : ((z : Int) == 0) = false := by simp; omega
        obtain ⟨y, hy⟩ : ∃ y, m1 % z = y := ⟨_, rfl⟩
        have hyl : y < z := by rw [← hy]; exact Nat.mod_lt _ (by omega)
        have hmy : Int.tmod (m1 : Int) (z : Int) = (y : Int) := by rw [← hy]; rfl
        obtain ⟨pl, hpl⟩ : ∃ p, T + (8 + n') + y = p := ⟨_, rfl⟩
        have hpi : (T : Int) + (8 + (n' : Int)) + (y : Int) = (pl : Int) := by omega
        have hU3 : U = 8 + n' + z := by have := HT.out.2.1 h8; omega
        have hpll : pl < n3 := by omega
        have hpl2 : (pl : Int) < n3 := by omega
        have hzero : b[pl]? = some 0 := HN.out.2.1.fill_zero HN.out.1 HN.out.2.2.2.2.2.2 (by rw [HT.out.1, HT.out.2.2.1]; omega) (by omega)
        have HY := Lib.hid (And.intro hzero hpl)
        clear hzero hpl hy hz hr8
        go_wp2_with fail
        refine (copy_any _ n3 c3 b w9s ((HF.out w9s HE.out.2).2.2.1.more HE.out.2.size) (by omega)).mono ?_
        rintro e w10 ⟨Y, nY, cY, rfl, how10, hbw10⟩
        obtain ⟨gY, capY, e, _, _⟩ := how10.1.form (by omega)
        injection e with ea en ec
        subst ea en ec
        rw [hl3] at how10 ⊢
        have hgY := how10.1.lt gY rfl
        have hb5w10 := HE.out.2.trans (hbw10.mono HE.out.2.size)
        have H10 := Lib.hid (And.intro how10 hb5w10)
        clear how10 hbw10 hb5w10
        obtain ⟨zzY, _, hzzY⟩ := H10.out.1.cellAt hl3 (j := pl) (by omega)
        have hfzY := H10.out.1.frozenAt hl3 pl
        have hstY := H10.out.1.stored hl3 pl v
        have hlowY : w5.heap.size ≤ gY := by have := H10.out.2.size; have := HE.out.2.size; omega
        have hbsY : Below w5.heap.size w5 (w10.setCell ⟨gY, pl, none⟩ (.int .u8 (v.toNat : Int))) := H10.out.2.grown (grownBy_set w10 ⟨gY, pl, none⟩ _) H10.out.2.size (fun k e => by cases e; exact hlowY)
        obtain ⟨w11, hw11⟩ : ∃ x, w10.setCell ⟨gY, pl, none⟩ (.int .u8 (v.toNat : Int)) = x := ⟨_, rfl⟩
        rw [hw11] at hstY hbsY
        obtain ⟨d, hd⟩ : ∃ x, b.set pl v = x := ⟨_, rfl⟩
        rw [hd] at hstY
        obtain ⟨_, _, _, ed, hrd⟩ := hstY.rd
        injection ed with q1 q2 q3
        subst q1 q2 q3
        have hgwY : gY < w11.heap.size := by rw [← hw11]; first | (simp; done) | (simp; omega)
        have hrd' : Rd w11 w11.heap.size (some ⟨gY, 0, none⟩) n3 cY d := hrd.more (by rw [← hw11]; first | (simp; done) | (simp; omega))
        have H11 := Lib.hid (And.intro hrd' (And.intro hbsY (And.intro hd hw11)))
        clear hstY hbsY hrd hrd' hd hw11
        go_upto_region 21 with fail
        rw [H11.out.2.2.2]
        clear hzzY hfzY
        go_wp2_with fail
        refine (pe_parse_any (some ⟨gY, 0, none⟩) n3 cY d w11 H11.out.1).mono ?_
        rintro e w12 ⟨hbw12, E, rfl, honeE, hzE, hokE⟩
        obtain ⟨erE, herE⟩ : ∃ er, Pe.err (d) = er := ⟨_, rfl⟩
        have HDE := Lib.hid (And.intro honeE (And.intro hokE (And.intro herE hbw12)))
        rw [herE]
        clear honeE hokE herE hbw12 hzE
        go_upto_region 22 with (first
          | ((with_reducible refine at_store_img ?_); refine wpList_store_img rfl _ _ rfl w12.heap.size IV.zero E rfl rfl (Blk.new w12 _ _) HDE.out.1 ?_; intro w12s hBs hgs)
          | fail)
        have hbs : Below w12.heap.size w12 w12s := (below_one w12 _).grown hgs (by simp) (fun k e => by injection e with e; omega)
        obtain ⟨jc, hjc⟩ : ∃ j, w12.heap.size = j := ⟨_, rfl⟩
        have hjl : w12.heap.size < w12s.heap.size := hBs.lt
        rw [hjc] at hBs hjl ⊢
        have HSE := Lib.hid (And.intro hBs (And.intro hbs (And.intro hjl hjc)))
        clear hBs hgs hbs hjl hjc
        have hb5z : Below w5.heap.size w5 w12s := H11.out.2.1.trans ((HDE.out.2.2.2.trans (HSE.out.2.1.mono HDE.out.2.2.2.size)).mono H11.out.2.1.size)
        have hend : Below w.heap.size w w12s := HB.out.1.trans (hb5z.mono HB.out.1.size)
        have HZ := Lib.hid hend
        clear hend hb5z
        by_cases hv : v = 0
        · have e : b.set pl v = b := by
            apply List.ext_getElem?
            intro i
            rw [List.getElem?_set]
            split
            · rename_i h; subst h; rw [if_pos (by omega), HY.out.1, hv]
            · rfl
          have h1 := H11.out.2.2.1
          rw [e] at h1
          have h2 := HDE.out.2.2.1
          rw [← h1, HN.out.2.2.1] at h2
          subst h2
          have hvz : ((v.toNat : Int) == 0) = true := by rw [hv]; rfl
          clear e h1
          go_wp2_with fail
          refine (works_any w12s).mono ?_
          rintro e w11 ⟨rfl, hb11⟩
          have H11 := Lib.hid (HZ.out.trans (hb11.mono HZ.out.size))
          clear hb11
          go_wp2_with fail
          go_ret
          exact ⟨rfl, H11.out⟩
        · have h1 := HN.out.2.1.fill HN.out.1 HN.out.2.2.2.2.2.2 (k := pl) (v := v) (by rw [HY.out.1]; exact fun e => hv (Option.some.inj e).symm) (.inr ⟨by rw [HT.out.1, HT.out.2.2.1]; omega, by omega⟩)
          rw [H11.out.2.2.1, HDE.out.2.2.1] at h1
          subst h1
          have hvz : ((v.toNat : Int) == 0) = false := HV.out 0 hv
          go_wp2_with fail
          refine (works_any w12s).mono ?_
          rintro e w11 ⟨rfl, hb11⟩
          have H11 := Lib.hid (HZ.out.trans (hb11.mono HZ.out.size))
          clear hb11
          go_wp2_with fail
          go_ret
          exact ⟨rfl, H11.out⟩
    · have hvx' := HV.out x hvx
      clear kb kb' k6
      go_upto_region 17 with fail
      by_cases h8 : (8 + n') % 8 = 0
      · have hm8 : Int.tmod (8 + (n' : Int)) 8 = 0 := by rw [show (8 : Int) + (n' : Int) = ((8 + n' : Nat) : Int) from by omega, show Int.tmod ((8 + n' : Nat) : Int) 8 = (((8 + n') % 8 : Nat) : Int) from rfl, h8]; rfl
        go_wp2_with fail
        refine (works_any w9s).mono ?_
        rintro e w11 ⟨rfl, hb11⟩
        have H11 := Lib.hid (HE.out.1.trans (hb11.mono HE.out.1.size))
        clear hb11
        go_wp2_with fail
        go_ret
        exact ⟨rfl, H11.out⟩
      · obtain ⟨r8, hr8⟩ : ∃ r, (8 + n') % 8 = r := ⟨_, rfl⟩
        have hm8 : Int.tmod (8 + (n' : Int)) 8 = (r8 : Int) := by rw [show (8 : Int) + (n' : Int) = ((8 + n' : Nat) : Int) from by omega, show Int.tmod ((8 + n' : Nat) : Int) 8 = (((8 + n') % 8 : Nat) : Int) from rfl, hr8]
        have hr81 : ((r8 : Int) == 0) = false := by simp; omega
        obtain ⟨z, hz⟩ : ∃ z, 8 - r8 = z := ⟨_, rfl⟩
        have hzi : (8 : Int) - (r8 : Int) = (z : Int) := by omega
        have hz1 : 1 ≤ z ∧ z ≤ 7 := by omega
        have hz0 : ((z : Int) == 0) = false := by simp; omega
        obtain ⟨y, hy⟩ : ∃ y, m1 % z = y := ⟨_, rfl⟩
        have hyl : y < z := by rw [← hy]; exact Nat.mod_lt _ (by omega)
        have hmy : Int.tmod (m1 : Int) (z : Int) = (y : Int) := by rw [← hy]; rfl
        obtain ⟨pl, hpl⟩ : ∃ p, T + (8 + n') + y = p := ⟨_, rfl⟩
        have hpi : (T : Int) + (8 + (n' : Int)) + (y : Int) = (pl : Int) := by omega
        have hU3 : U = 8 + n' + z := by have := HT.out.2.1 h8; omega
        have hpll : pl < n3 := by omega
        have hpl2 : (pl : Int) < n3 := by omega
        have hzero : b[pl]? = some 0 := HN.out.2.1.fill_zero HN.out.1 HN.out.2.2.2.2.2.2 (by rw [HT.out.1, HT.out.2.2.1]; omega) (by omega)
        have HY := Lib.hid (And.intro hzero hpl)
        clear hzero hpl hy hz hr8
        go_wp2_with fail
        refine (copy_any _ n3 c3 b w9s ((HF.out w9s HE.out.2).2.2.1.more HE.out.2.size) (by omega)).mono ?_
        rintro e w10 ⟨Y, nY, cY, rfl, how10, hbw10⟩
        obtain ⟨gY, capY, e, _, _⟩ := how10.1.form (by omega)
        injection e with ea en ec
        subst ea en ec
        rw [hl3] at how10 ⊢
        have hgY := how10.1.lt gY rfl
        have hb5w10 := HE.out.2.trans (hbw10.mono HE.out.2.size)
        have H10 := Lib.hid (And.intro how10 hb5w10)
        clear how10 hbw10 hb5w10
        obtain ⟨zzY, _, hzzY⟩ := H10.out.1.cellAt hl3 (j := pl) (by omega)
        have hfzY := H10.out.1.frozenAt hl3 pl
        have hstY := H10.out.1.stored hl3 pl v
        have hlowY : w5.heap.size ≤ gY := by have := H10.out.2.size; have := HE.out.2.size; omega
        have hbsY : Below w5.heap.size w5 (w10.setCell ⟨gY, pl, none⟩ (.int .u8 (v.toNat : Int))) := H10.out.2.grown (grownBy_set w10 ⟨gY, pl, none⟩ _) H10.out.2.size (fun k e => by cases e; exact hlowY)
        obtain ⟨w11, hw11⟩ : ∃ x, w10.setCell ⟨gY, pl, none⟩ (.int .u8 (v.toNat : Int)) = x := ⟨_, rfl⟩
        rw [hw11] at hstY hbsY
        obtain ⟨d, hd⟩ : ∃ x, b.set pl v = x := ⟨_, rfl⟩
        rw [hd] at hstY
        obtain ⟨_, _, _, ed, hrd⟩ := hstY.rd
        injection ed with q1 q2 q3
        subst q1 q2 q3
        have hgwY : gY < w11.heap.size := by rw [← hw11]; first | (simp; done) | (simp; omega)
        have hrd' : Rd w11 w11.heap.size (some ⟨gY, 0, none⟩) n3 cY d := hrd.more (by rw [← hw11]; first | (simp; done) | (simp; omega))
        have H11 := Lib.hid (And.intro hrd' (And.intro hbsY (And.intro hd hw11)))
        clear hstY hbsY hrd hrd' hd hw11
        go_upto_region 21 with fail
        rw [H11.out.2.2.2]
        clear hzzY hfzY
        go_wp2_with fail
        refine (pe_parse_any (some ⟨gY, 0, none⟩) n3 cY d w11 H11.out.1).mono ?_
        rintro e w12 ⟨hbw12, E, rfl, honeE, hzE, hokE⟩
        obtain ⟨erE, herE⟩ : ∃ er, Pe.err (d) = er := ⟨_, rfl⟩
        have HDE := Lib.hid (And.intro honeE (And.intro hokE (And.intro herE hbw12)))
        rw [herE]
        clear honeE hokE herE hbw12 hzE
        go_upto_region 22 with (first
          | ((with_reducible refine at_store_img ?_); refine wpList_store_img rfl _ _ rfl w12.heap.size IV.zero E rfl rfl (Blk.new w12 _ _) HDE.out.1 ?_; intro w12s hBs hgs)
          | fail)
        have hbs : Below w12.heap.size w12 w12s := (below_one w12 _).grown hgs (by simp) (fun k e => by injection e with e; omega)
        obtain ⟨jc, hjc⟩ : ∃ j, w12.heap.size = j := ⟨_, rfl⟩
        have hjl : w12.heap.size < w12s.heap.size := hBs.lt
        rw [hjc] at hBs hjl ⊢
        have HSE := Lib.hid (And.intro hBs (And.intro hbs (And.intro hjl hjc)))
        clear hBs hgs hbs hjl hjc
        have hb5z : Below w5.heap.size w5 w12s := H11.out.2.1.trans ((HDE.out.2.2.2.trans (HSE.out.2.1.mono HDE.out.2.2.2.size)).mono H11.out.2.1.size)
        have hend : Below w.heap.size w w12s := HB.out.1.trans (hb5z.mono HB.out.1.size)
        have HZ := Lib.hid hend
        clear hend hb5z
        by_cases hv : v = 0
        · have e : b.set pl v = b := by
            apply List.ext_getElem?
            intro i
            rw [List.getElem?_set]
            split
            · rename_i h; subst h; rw [if_pos (by omega), HY.out.1, hv]
            · rfl
          have h1 := H11.out.2.2.1
          rw [e] at h1
          have h2 := HDE.out.2.2.1
          rw [← h1, HN.out.2.2.1] at h2
          subst h2
          have hvz : ((v.toNat : Int) == 0) = true := by rw [hv]; rfl
          clear e h1
          go_wp2_with fail
          refine (works_any w12s).mono ?_
          rintro e w11 ⟨rfl, hb11⟩
          have H11 := Lib.hid (HZ.out.trans (hb11.mono HZ.out.size))
          clear hb11
          go_wp2_with fail
          go_ret
          exact ⟨rfl, H11.out⟩
        · have h1 := HN.out.2.1.fill HN.out.1 HN.out.2.2.2.2.2.2 (k := pl) (v := v) (by rw [HY.out.1]; exact fun e => hv (Option.some.inj e).symm) (.inr ⟨by rw [HT.out.1, HT.out.2.2.1]; omega, by omega⟩)
          rw [H11.out.2.2.1, HDE.out.2.2.1] at h1
          subst h1
          have hvz : ((v.toNat : Int) == 0) = false := HV.out 0 hv
          go_wp2_with fail
          refine (works_any w12s).mono ?_
          rintro e w11 ⟨rfl, hb11⟩
          have H11 := Lib.hid (HZ.out.trans (hb11.mono HZ.out.size))
          clear hb11
          go_wp2_with fail
          go_ret
          exact ⟨rfl, H11.out⟩
end Go.Proofs.YtlfajfmkljnodaaDoor
