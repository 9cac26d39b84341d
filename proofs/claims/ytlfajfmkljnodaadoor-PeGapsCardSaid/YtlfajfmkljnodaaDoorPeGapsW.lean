/- The walk of the law PeGaps. -/
import Derived.Test.YtlfajfmkljnodaaDoorPeWorks
import Derived.Test.YtlfajfmkljnodaaDoorPeFr
import Derived.Test.YtlfajfmkljnodaaDoorPeLaid
import Derived.Test.YtlfajfmkljnodaaDoorPeRGet
namespace Go.Proofs.YtlfajfmkljnodaaDoor
open Go.RowKit
set_option maxRecDepth 100000
set_option linter.unusedVariables false
set_option linter.unusedSimpArgs false
set_option maxHeartbeats 8000000 in
theorem peGaps_walk (w : World) (V : ShV) (s : Pe.Shape) (h : ShRd w w.heap.size V s) (a1 : Int) (h1 : (Lit.int .u8 a1).wf = true) (a2 : Int) (h2 : (Lit.int .u32 a2).wf = true) :
    Calls Tryd.prog 7 #[.agg V.cells, .int .u8 a1, .int .u32 a2] w fun e w' => e = .returned (.bool true) ∧ Below w.heap.size w w' := by
  obtain ⟨m1, rfl, hm1⟩ : ∃ m : Nat, a1 = (m : Int) ∧ m < 256 := by
    have e1 : IntKind.u8.min = 0 := rfl
    have e2 : IntKind.u8.max = 255 := rfl
    simp only [Lit.wf, Bool.and_eq_true, decide_eq_true_eq] at h1
    exact ⟨a1.toNat, by omega, by omega⟩
  obtain ⟨off, rfl, hoff⟩ : ∃ m : Nat, a2 = (m : Int) ∧ m < 4294967296 := by
    have e1 : IntKind.u32.min = 0 := rfl
    have e2 : IntKind.u32.max = 4294967295 := rfl
    simp only [Lit.wf, Bool.and_eq_true, decide_eq_true_eq] at h2
    exact ⟨a2.toNat, by omega, by omega⟩
  clear h1 h2
  have hB0 : Bs (w.alloc (.cells V.cells 39)) w.heap.size V := Blk.new _ _ _
  have hbw0 : Below w.heap.size w (w.alloc (.cells V.cells 39)) := below_one w _
  have hr0 : ShRd (w.alloc (.cells V.cells 39)) (w.alloc (.cells V.cells 39)).heap.size V s := (h.below hbw0).more (by simp)
  obtain ⟨W0, hW0⟩ : ∃ W0, w.alloc (.cells V.cells 39) = W0 := ⟨_, rfl⟩
  rw [hW0] at hB0 hbw0 hr0
  have H := Lib.hid (And.intro hB0 (And.intro hr0 (And.intro hbw0 hW0)))
  clear h hB0 hr0 hbw0 hW0
  go_enter Tryd.func7, Tryd.ntmps7
  go_upto_region 1 with fail
  rw [H.out.2.2.2]
  go_wp2_with (first
    | ((with_reducible refine at_load_sh ?_); refine wpList_load_sh rfl _ rfl w.heap.size V rfl H.out.1 ?_)
    | fail)
  refine (brought_any V s W0 H.out.2.1).mono ?_
  rintro e w1 ⟨V1, rfl, hr1, hb1⟩
  have ho := Pe.brought_ok s
  have h8 := Pe.brought_sigs s
  have hol := Pe.order_len s
  obtain ⟨S, hS⟩ : ∃ S, Pe.brought s = S := ⟨_, rfl⟩
  rw [hS] at hr1 ho h8 hol
  have hread := Pe.Shape.write_read ho
  obtain ⟨he0, hi0⟩ := Pe.read_err hread ho h8
  have hsm := S.write_small ho
  obtain ⟨b, hb⟩ : ∃ b, Pe.write S = b := ⟨_, rfl⟩
  rw [hb] at hread he0 hi0 hsm
  have HN := Lib.hid (And.intro ho (And.intro hread (And.intro he0 (And.intro hi0 (And.intro hb (And.intro hol hS))))))
  clear ho hread he0 hi0 hb hol hS
  have hbw1 := H.out.2.2.1.trans (hb1.mono H.out.2.2.1.size)
  have H1 := Lib.hid (And.intro hr1 (And.intro hbw1 hr1.one))
  clear hr1 hb1 hbw1
  go_upto_region 2 with (first
    | ((with_reducible refine at_store_sh ?_); refine wpList_store_sh rfl _ _ rfl w1.heap.size ShV.zero V1 rfl rfl (Blk.new w1 _ _) H1.out.2.2 ?_; intro w2 hB2 hg2)
    | fail)
  have hb12 : Below w1.heap.size w1 w2 := (below_one w1 _).grown hg2 (by simp) (fun k e => by injection e with e; omega)
  have hr2 : ShRd w2 w2.heap.size V1 S := (H1.out.1.below hb12).more hb12.size
  have hbw2 := H1.out.2.1.trans (hb12.mono H1.out.2.1.size)
  have hx2 : w1.heap.size < w2.heap.size := hB2.lt
  obtain ⟨xb, hxb⟩ : ∃ xb, w1.heap.size = xb := ⟨_, rfl⟩
  rw [hxb] at hB2 hx2 ⊢
  have H2 := Lib.hid (And.intro hB2 (And.intro hr2 hbw2))
  clear hB2 hg2 hb12 hr2 hbw2 H1 hxb
  go_wp2_with (first
    | ((with_reducible refine at_load_sh ?_); refine wpList_load_sh rfl _ rfl xb V1 rfl H2.out.1 ?_)
    | fail)
  refine (write_any V1 S w2 H2.out.2.1 HN.out.1 HN.out.2.2.2.2.2.1).mono ?_
  rw [HN.out.2.2.2.2.1]
  rintro e w3 ⟨A3, n3, c3, rfl, ho3, hb3⟩
  obtain ⟨_, _, _, e3, hr3⟩ := ho3.rd
  injection e3 with q1 q2 q3
  subst q1 q2 q3
  have hl3 := hr3.len
  have hbw3 := H2.out.2.2.trans (hb3.mono H2.out.2.2.size)
  have hB3 := H2.out.1.below hb3 hx2
  have hsh3 := (H2.out.2.1.below hb3).more hb3.size
  have hx3 : xb < w3.heap.size := hB3.lt
  have H3 := Lib.hid (And.intro hr3 (And.intro hB3 (And.intro hsh3 hbw3)))
  clear hr3 hb3 hbw3 hB3 hsh3 ho3 H2 hx2
  go_wp2_with fail
  refine (pe_parse_any A3 n3 c3 b w3 H3.out.1).mono ?_
  rintro e w4 ⟨hb4, C, rfl, hC, _, hok⟩
  have hI := hok HN.out.2.2.1
  rw [HN.out.2.2.1]
  have H4 := Lib.hid (And.intro hb4 (And.intro hC hI))
  clear hb4 hC hI hok
  go_upto_region 4 with (first
    | ((with_reducible refine at_store_img ?_); refine wpList_store_img rfl _ _ rfl w4.heap.size IV.zero C rfl rfl (Blk.new w4 _ _) H4.out.2.1 ?_; intro w5 hB5 hg5)
    | fail)
  have hb45 : Below w4.heap.size w4 w5 := (below_one w4 _).grown hg5 (by simp) (fun k e => by injection e with e; omega)
  have hb35 : Below w3.heap.size w3 w5 := H4.out.1.trans (hb45.mono H4.out.1.size)
  have hx5 : xb < w5.heap.size := Nat.lt_of_lt_of_le hx3 hb35.size
  have hi5 : w4.heap.size < w5.heap.size := hB5.lt
  obtain ⟨ib, hib⟩ : ∃ ib, w4.heap.size = ib := ⟨_, rfl⟩
  have hbw5 : Below w.heap.size w w5 := H3.out.2.2.2.trans (hb35.mono H3.out.2.2.2.size)
  have hI5 := H4.out.2.2.later hb45
  have hsn := hI5.sn HN.out.2.2.2.1
  have hF : ∀ W, Below w5.heap.size w5 W → Bs W xb V1 ∧ ShRd W w5.heap.size V1 S ∧ Rd W w5.heap.size A3 n3 c3 b ∧ Bi W ib C ∧ ImgOwn b C w3.heap.size W := fun W hW => by
    have h3W : Below w3.heap.size w3 W := hb35.trans (hW.mono hb35.size)
    exact ⟨H3.out.2.1.below h3W hx3, (H3.out.2.2.1.below h3W).more hb35.size, (H3.out.1.below h3W).more hb35.size, by rw [← hib]; exact hB5.below hW hi5, hI5.later hW⟩
  rw [hib] at hi5 ⊢
  have HF := Lib.hid hF
  have HB := Lib.hid (And.intro hbw5 (And.intro hsn H4.out.2.1))
  clear hF hbw5 hsn hI5 hB5 hg5 hb45 hb35 hx3 hib H3 H4
  obtain ⟨A6, n6, c6, l6, e6, r6, hl6⟩ := (HF.out w5 (Below.refl _ _)).2.1.bodies
  have hn6 : S.bodies.length = n6 := by rw [← hl6, List.length_map]; exact r6.len
  have hn61 := HN.out.1.one
  have hn610 := HN.out.1.ten
  rw [hn6] at hn61 hn610
  have hb3 : ∀ W, Below w5.heap.size w5 W → W.cell? ⟨xb, 3, none⟩ = some (.slice A6 n6 c6) := fun W hW => ((HF.out W hW).1.cell 3).trans (by rw [← e6]; rfl)
  have HB3 := Lib.hid (And.intro hb3 (And.intro r6 (And.intro hl6 hn6)))
  have k3 := hb3 w5 (Below.refl _ _)
  clear hb3 r6 hl6 e6
  obtain ⟨z1, z2, z3, z4, z5⟩ := S.sizes_
  have z0 := HN.out.1.stub
  have z6 := HN.out.2.1.made.fits
  rw [hn6] at z4
  obtain ⟨k, hk⟩ : ∃ k, m1 % n6 = k := ⟨_, rfl⟩
  have hkl : k < n6 := by rw [← hk]; exact Nat.mod_lt _ (by omega)
  have hmod : Int.tmod (m1 : Int) (n6 : Int) = (k : Int) := by rw [← hk]; rfl
  have hnz : ((n6 : Int) == 0) = false := by simp; omega
  clear hk
  obtain ⟨T, hT⟩ : ∃ T, S.table = T := ⟨_, rfl⟩
  have hTl : 312 ≤ T ∧ T + 40 * n6 ≤ n3 ∧ T ≤ 600 := by rw [← hT]; omega
  have hrows := rows_of C w5 (by rw [HB.out.2.1.dir]; omega) (by rw [HB.out.2.1.dir]; omega)
  rw [show C.dir + 96 = T by rw [HB.out.2.1.dir]; omega] at hrows
  have hnl : n3 ≤ 11100 := by omega
  obtain ⟨p, hp⟩ : ∃ p, T + 40 * k + 20 = p := ⟨_, rfl⟩
  have hpl : p + 4 ≤ n3 := by omega
  have hin : Pe.inb b p 4 = true := by unfold Pe.inb; simp; omega
  have hpi : (T : Int) + 40 * (k : Int) + 20 = (p : Int) := by omega
  have hget := fun W (hW : Below w5.heap.size w5 W) => getR_any A3 n3 c3 p 4 (p : Int) 4 b W ((HF.out W hW).2.2.1.more hW.size) (by omega) rfl rfl (by omega) (.inr (.inr rfl))
  have hlaid := fun W (hW : Below w5.heap.size w5 W) => laid_any A3 n3 c3 p off 4 (p : Int) (off : Int) b W ((HF.out W hW).2.2.1.more hW.size) (by omega) rfl rfl (by omega) (by omega) (.inr (.inr rfl))
  rw [hin] at hget
  simp only [if_true] at hget
  obtain ⟨was, hwas⟩ : ∃ x, Pe.at_ b p 4 = x := ⟨_, rfl⟩
  rw [hwas] at hget
  have hwl : was < 4294967296 := by rw [← hwas]; exact Pe.at_lt4 _ _
  have hwu : IntKind.u64.wrap (off : Int) = (off : Int) := by simp only [IntKind.wrap, IntKind.bits, IntKind.signed]; simp; omega
  have hlen : ∀ i, i < n6 → S.len i = (S.bodies.getD i []).length := fun _ _ => rfl
  have HL := Lib.hid (And.intro hrows (And.intro hget (And.intro hlaid (And.intro hT (And.intro hp hwas)))))
  clear hrows hget hlaid z1 z2 z3 z4 z5 z6 hT hp hwas hin hlen
  go_wp2_with (first
    | ((with_reducible refine at_load_img ?_); refine wpList_load_img rfl _ rfl ib C rfl (HF.out w5 (Below.refl _ _)).2.2.2.1 ?_)
    | fail)
  refine HL.out.1.mono ?_
  rintro e w6 ⟨rfl, hb6⟩
  have H6 := Lib.hid hb6
  clear hb6
  go_wp2_with fail
  refine (HL.out.2.1 w6 H6.out).mono ?_
  rintro e w7 ⟨rfl, hb7⟩
  have H7 := Lib.hid (H6.out.trans (hb7.mono H6.out.size))
  clear hb7
  go_wp2_with fail
  refine (HL.out.2.2.1 w7 H7.out).mono ?_
  rintro e w8 ⟨A8, n8, c8, rfl, ho8, hb8⟩
  obtain ⟨_, _, _, e8, hr8⟩ := ho8.rd
  injection e8 with q1 q2 q3
  subst q1 q2 q3
  obtain ⟨c, hc⟩ : ∃ c, Pe.putAt b p off 4 = c := ⟨_, rfl⟩
  rw [hc] at hr8
  have H8 := Lib.hid (And.intro hr8 (And.intro (H7.out.trans (hb8.mono H7.out.size)) hc))
  clear ho8 hb8 hr8 hc
  go_wp2_with fail
  refine (pe_parse_any A8 n8 c8 c w8 H8.out.1).mono ?_
  rintro e w9 ⟨hbw9, D, rfl, honeD, hzD, hokD⟩
  obtain ⟨erD, herD⟩ : ∃ er, Pe.err (c) = er := ⟨_, rfl⟩
  have HDD := Lib.hid (And.intro honeD (And.intro hokD (And.intro herD hbw9)))
  rw [herD]
  clear honeD hokD herD hbw9 hzD
  go_upto_region 11 with (first
    | ((with_reducible refine at_store_img ?_); refine wpList_store_img rfl _ _ rfl w9.heap.size IV.zero D rfl rfl (Blk.new w9 _ _) HDD.out.1 ?_; intro w9s hBs hgs)
    | fail)
  have hbs : Below w9.heap.size w9 w9s := (below_one w9 _).grown hgs (by simp) (fun k e => by injection e with e; omega)
  obtain ⟨jb, hjb⟩ : ∃ j, w9.heap.size = j := ⟨_, rfl⟩
  have hjl : w9.heap.size < w9s.heap.size := hBs.lt
  rw [hjb] at hBs hjl ⊢
  have HSD := Lib.hid (And.intro hBs (And.intro hbs (And.intro hjl hjb)))
  clear hBs hgs hbs hjl hjb
  have hb59 : Below w5.heap.size w5 w9s := H8.out.2.1.trans ((HDD.out.2.2.2.trans (HSD.out.2.1.mono HDD.out.2.2.2.size)).mono H8.out.2.1.size)
  obtain ⟨bb, bo, A', n', c', xs', rfl, hbb, hlk, kb, _⟩ := (HB3.out.2.1.below hb59).get hkl
  have k3' := HB3.out.1 w9s hb59
  have hbk : S.bodies[k]? = some xs' := by rw [← HB3.out.2.2.1, List.getElem?_map, hlk]; rfl
  have hn' : S.len k = n' := by
    unfold Pe.Shape.len
    rw [List.getD_eq_getElem?_getD, hbk]
    rename_i hrd
    exact hrd.len
  have hend : Below w.heap.size w w9s := HB.out.1.trans (hb59.mono HB.out.1.size)
  have h9 := HF.out w9s hb59
  have HE := Lib.hid (And.intro hb59 (And.intro hend (And.intro h9 hn')))
  clear hb59 hend h9 hbk hlk hn' k3
  have hop : Pe.putAt b (S.table + 40 * k + 20) off 4 = c := by rw [HL.out.2.2.2.1, HL.out.2.2.2.2.1]; exact H8.out.2.2
  have hkS : k < S.bodies.length := by rw [HB3.out.2.2.2]; exact hkl
  have HO := Lib.hid (And.intro hop hkS)
  clear hop hkS
  by_cases h0 : n' = 0
  · subst h0
    have hsame := HN.out.2.1.gap_same HN.out.1 HO.out.2 hoff (fun h => absurd HE.out.2.2.2 h)
    rw [HO.out.1] at hsame
    obtain ⟨g1, g2⟩ := Pe.read_err hsame HN.out.1 h8
    obtain rfl : erD = 0 := HDD.out.2.2.1.symm.trans g1
    have hDo := HDD.out.2.1 g1
    have hs := same_own HE.out.2.2.1.2.2.2.2 (hDo.later HSD.out.2.1) HN.out.2.2.1 (HN.out.2.2.2.1.trans g2.symm)
    have HS := Lib.hid hs
    clear hs hDo g1 g2 hsame
    go_wp2_with (first
      | ((with_reducible refine at_load_img ?_); refine wpList_load_img_g _ rfl ib C rfl HE.out.2.2.1.2.2.2.1 (by rfl) ?_)
      | ((with_reducible refine at_load_img ?_); refine wpList_load_img_g _ rfl jb D rfl HSD.out.1 (by rfl) ?_)
      | fail)
    refine HS.out.mono ?_
    rintro e w10 ⟨rfl, hb10⟩
    have H10 := Lib.hid (HE.out.2.1.trans (hb10.mono HE.out.2.1.size))
    clear hb10
    go_wp2_with fail
    refine (works_any w10).mono ?_
    rintro e w11 ⟨rfl, hb11⟩
    have H11 := Lib.hid (H10.out.trans (hb11.mono H10.out.size))
    clear hb11
    go_wp2_with fail
    go_ret
    exact ⟨rfl, H11.out⟩
  · have hz' : ((n' : Int) == 0) = false := by simp; omega
    have hw2 := (HN.out.2.1.made.row k HO.out.2 (by rw [HE.out.2.2.2]; exact h0)).2
    rw [HL.out.2.2.2.1, HL.out.2.2.2.2.1, HL.out.2.2.2.2.2] at hw2
    by_cases hoe : off = was
    · subst hoe
      have hsame := HN.out.2.1.gap_same HN.out.1 HO.out.2 hoff (fun _ => hw2)
      rw [HO.out.1] at hsame
      obtain ⟨g1, g2⟩ := Pe.read_err hsame HN.out.1 h8
      obtain rfl : erD = 0 := HDD.out.2.2.1.symm.trans g1
      clear hsame g1 g2 hw2
      go_wp2_with fail
      refine (works_any w9s).mono ?_
      rintro e w11 ⟨rfl, hb11⟩
      have H11 := Lib.hid (HE.out.2.1.trans (hb11.mono HE.out.2.1.size))
      clear hb11
      go_wp2_with fail
      go_ret
      exact ⟨rfl, H11.out⟩
    · have g1 := HN.out.2.1.gap HN.out.1 HO.out.2 (by rw [HE.out.2.2.2]; exact h0) hoff (fun e => hoe (e.trans hw2.symm))
      rw [HO.out.1] at g1
      obtain rfl : erD = 9 := HDD.out.2.2.1.symm.trans g1
      have hne : ((off : Int) == was) = false := by simp; omega
      clear g1 hw2
      go_wp2_with fail
      refine (works_any w9s).mono ?_
      rintro e w11 ⟨rfl, hb11⟩
      have H11 := Lib.hid (HE.out.2.1.trans (hb11.mono HE.out.2.1.size))
      clear hb11
      go_wp2_with fail
      go_ret
      exact ⟨rfl, H11.out⟩
end Go.Proofs.YtlfajfmkljnodaaDoor
