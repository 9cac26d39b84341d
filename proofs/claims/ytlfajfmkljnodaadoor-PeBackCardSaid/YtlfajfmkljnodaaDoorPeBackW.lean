/- The walk of the law PeBack. -/
import Derived.Test.YtlfajfmkljnodaaDoorPeKT7
namespace Go.Proofs.YtlfajfmkljnodaaDoor
open Go.RowKit
set_option maxRecDepth 100000
set_option linter.unusedVariables false
set_option linter.unusedSimpArgs false
set_option maxHeartbeats 8000000 in
theorem peBack_walk (w : World) (V : ShV) (s : Pe.Shape) (h : ShRd w w.heap.size V s) (cut : Int) (hcw : (Lit.int .i64 cut).wf = true) (Am : Option Addr) (nm cm : Nat) (more : List UInt8) (hm : Rd w w.heap.size Am nm cm more) :
    Calls Tryd.prog 4 #[.agg V.cells, .int .i64 cut, .slice Am nm cm] w fun e w' => e = .returned (.bool true) ∧ Below w.heap.size w w' := by
  have HM := Lib.hid hm
  clear hm hcw
  by_cases hnm : nm ≤ 100
  · have hnm' : ¬ ((100 : Int) < nm) := by omega
    have hB0 : Bs (w.alloc (.cells V.cells 39)) w.heap.size V := Blk.new _ _ _
    have hbw0 : Below w.heap.size w (w.alloc (.cells V.cells 39)) := below_one w _
    have hr0 : ShRd (w.alloc (.cells V.cells 39)) (w.alloc (.cells V.cells 39)).heap.size V s := (h.below hbw0).more (by simp)
    obtain ⟨W0, hW0⟩ : ∃ W0, w.alloc (.cells V.cells 39) = W0 := ⟨_, rfl⟩
    rw [hW0] at hB0 hbw0 hr0
    have H := Lib.hid (And.intro hB0 (And.intro hr0 (And.intro hbw0 hW0)))
    clear h hB0 hr0 hbw0 hW0
    go_enter Tryd.func4, Tryd.ntmps4
    go_upto_region 1 with fail
    rw [H.out.2.2.2]
    go_wp2_with (first
      | ((with_reducible refine at_load_sh ?_); refine wpList_load_sh rfl _ rfl w.heap.size V rfl H.out.1 ?_)
      | fail)
    refine (brought_any V s W0 H.out.2.1).mono ?_
    rintro e w1 ⟨V1, rfl, hr1, hb1⟩
    have ho := Pe.brought_ok s
    have h8 := Pe.brought_sigs s
    have hol := Pe.order_len s
    obtain ⟨S, hS⟩ : ∃ S, Pe.brought s = S := ⟨_, rfl⟩
    rw [hS] at hr1 ho h8 hol
    have hread := Pe.Shape.write_read ho
    obtain ⟨he0, hi0⟩ := Pe.read_err hread ho h8
    have hsm := S.write_small ho
    obtain ⟨b, hb⟩ : ∃ b, Pe.write S = b := ⟨_, rfl⟩
    rw [hb] at hread he0 hi0 hsm
    have HN := Lib.hid (And.intro ho (And.intro hread (And.intro he0 (And.intro hi0 (And.intro hb (And.intro hol hS))))))
    clear ho hread he0 hi0 hb hol hS
    have hbw1 := H.out.2.2.1.trans (hb1.mono H.out.2.2.1.size)
    have H1 := Lib.hid (And.intro hr1 (And.intro hbw1 hr1.one))
    clear hr1 hb1 hbw1
    go_upto_region 4 with (first
      | ((with_reducible refine at_store_sh ?_); refine wpList_store_sh rfl _ _ rfl w1.heap.size ShV.zero V1 rfl rfl (Blk.new w1 _ _) H1.out.2.2 ?_; intro w2 hB2 hg2)
      | fail)
    have hb12 : Below w1.heap.size w1 w2 := (below_one w1 _).grown hg2 (by simp) (fun k e => by injection e with e; omega)
    have hr2 : ShRd w2 w2.heap.size V1 S := (H1.out.1.below hb12).more hb12.size
    have hbw2 := H1.out.2.1.trans (hb12.mono H1.out.2.1.size)
    have hx2 : w1.heap.size < w2.heap.size := hB2.lt
    obtain ⟨xb, hxb⟩ : ∃ xb, w1.heap.size = xb := ⟨_, rfl⟩
    rw [hxb] at hB2 hx2 ⊢
    have H2 := Lib.hid (And.intro hB2 (And.intro hr2 hbw2))
    clear hB2 hg2 hb12 hr2 hbw2 H1 hxb
    go_wp2_with (first
      | ((with_reducible refine at_load_sh ?_); refine wpList_load_sh rfl _ rfl xb V1 rfl H2.out.1 ?_)
      | fail)
    refine (write_any V1 S w2 H2.out.2.1 HN.out.1 HN.out.2.2.2.2.2.1).mono ?_
    rw [HN.out.2.2.2.2.1]
    rintro e w3 ⟨A3, n3, c3, rfl, ho3, hb3⟩
    obtain ⟨_, _, _, e3, hr3⟩ := ho3.rd
    injection e3 with q1 q2 q3
    subst q1 q2 q3
    have hl3 := hr3.len
    have HO3 := Lib.hid (And.intro ho3 H2.out.2.2.size)
    have hs23 := hb3.size
    have hbw3 := H2.out.2.2.trans (hb3.mono H2.out.2.2.size)
    have hB3 := H2.out.1.below hb3 hx2
    have hsh3 := (H2.out.2.1.below hb3).more hb3.size
    have hx3 : xb < w3.heap.size := hB3.lt
    have H3 := Lib.hid (And.intro hr3 (And.intro hB3 (And.intro hsh3 hbw3)))
    clear hr3 hb3 hbw3 hB3 hsh3 ho3 H2 hx2
    go_wp2_with fail
    refine (pe_parse_any A3 n3 c3 b w3 H3.out.1).mono ?_
    rintro e w4 ⟨hb4, C, rfl, hC, _, hok⟩
    have hI := hok HN.out.2.2.1
    rw [HN.out.2.2.1]
    have H4 := Lib.hid (And.intro hb4 (And.intro hC hI))
    clear hb4 hC hI hok
    go_upto_region 6 with (first
      | ((with_reducible refine at_store_img ?_); refine wpList_store_img rfl _ _ rfl w4.heap.size IV.zero C rfl rfl (Blk.new w4 _ _) H4.out.2.1 ?_; intro w5 hB5 hg5)
      | fail)
    have hb45 : Below w4.heap.size w4 w5 := (below_one w4 _).grown hg5 (by simp) (fun k e => by injection e with e; omega)
    have hb35 : Below w3.heap.size w3 w5 := H4.out.1.trans (hb45.mono H4.out.1.size)
    have hx5 : xb < w5.heap.size := Nat.lt_of_lt_of_le hx3 hb35.size
    have hi5 : w4.heap.size < w5.heap.size := hB5.lt
    obtain ⟨ib, hib⟩ : ∃ ib, w4.heap.size = ib := ⟨_, rfl⟩
    have hbw5 : Below w.heap.size w w5 := H3.out.2.2.2.trans (hb35.mono H3.out.2.2.2.size)
    have hI5 := H4.out.2.2.later hb45
    have hsn := hI5.sn HN.out.2.2.2.1
    have hF : ∀ W, Below w5.heap.size w5 W → Bs W xb V1 ∧ ShRd W w5.heap.size V1 S ∧ Rd W w5.heap.size A3 n3 c3 b ∧ Bi W ib C ∧ ImgOwn b C w3.heap.size W := fun W hW => by
      have h3W : Below w3.heap.size w3 W := hb35.trans (hW.mono hb35.size)
      exact ⟨H3.out.2.1.below h3W hx3, (H3.out.2.2.1.below h3W).more hb35.size, (H3.out.1.below h3W).more hb35.size, by rw [← hib]; exact hB5.below hW hi5, hI5.later hW⟩
    have hO5 : ∀ W, Below w5.heap.size w5 W → OwnB W w2.heap.size w5.heap.size (.slice A3 n3 c3) b := fun W hW => (HO3.out.1.below (hb35.trans (hW.mono hb35.size)) (Nat.le_refl _)).mono (Nat.le_refl _) hb35.size
    have HO5 := Lib.hid (And.intro hO5 (And.intro HO3.out.2 (Nat.le_trans hs23 hb35.size)))
    clear hO5 HO3
    rw [hib] at hi5 ⊢
    have HF := Lib.hid hF
    have HB := Lib.hid (And.intro hbw5 (And.intro hsn H4.out.2.1))
    clear hF hbw5 hsn hI5 hB5 hg5 hb45 hb35 hx3 hib H3 H4
    obtain ⟨l7, g7, hl7⟩ := (HF.out w5 (Below.refl _ _)).2.2.2.2.sigs
    obtain ⟨A7, c7, e7, _⟩ := g7.rdL
    obtain ⟨A6, n6, c6, l6, e6, r6, hl6⟩ := (HF.out w5 (Below.refl _ _)).2.1.sigs
    have hs7 : Pe.sigs b = S.sigs := congrArg Pe.Img.sigs HN.out.2.2.2.1
    rw [hs7] at hl7
    have hn7 : l7.length = n6 := by
      have h1 := congrArg List.length (hl7.trans hl6.symm)
      rw [List.length_map, List.length_map, r6.len] at h1
      exact h1
    rw [hn7] at e7
    obtain ⟨pl, hpl⟩ : ∃ x, C.plus = x := ⟨_, rfl⟩
    have hpl2 : V1.plus = pl := ((HF.out w5 (Below.refl _ _)).2.1.plus.trans HB.out.2.1.plus.symm).trans hpl
    have k0 : w5.cell? ⟨ib, 0, none⟩ = some (.bool pl) := by rw [← hpl]; exact (HF.out w5 (Below.refl _ _)).2.2.2.1.cell 0
    have k1 : w5.cell? ⟨xb, 0, none⟩ = some (.bool pl) := by rw [← hpl2]; exact (HF.out w5 (Below.refl _ _)).1.cell 0
    have k2 : w5.cell? ⟨ib, 7, none⟩ = some (.slice A7 n6 c7) := ((HF.out w5 (Below.refl _ _)).2.2.2.1.cell 7).trans (by show some C.sigs = _; rw [e7])
    have k3 : w5.cell? ⟨xb, 6, none⟩ = some (.slice A6 n6 c6) := ((HF.out w5 (Below.refl _ _)).1.cell 6).trans (by rw [← e6]; rfl)
    have hbk : BK S b more w w5 V1 C xb ib w3.heap.size w2.heap.size A3 n3 c3 Am nm cm :=
      ⟨HN.out.1, HN.out.2.1, HN.out.2.2.1, HN.out.2.2.2.1, HN.out.2.2.2.2.1, h8, hl3, hsm, fun W hW => ⟨(HF.out W hW).1, (HF.out W hW).2.1, HO5.out.1 W hW, (HF.out W hW).2.2.2.1, (HF.out W hW).2.2.2.2⟩, HB.out.1, HO5.out.2, HB.out.2.1, HM.out, hnm⟩
    have HK := Lib.hid hbk
    clear hbk g7 hl7 e7 r6 hl6 e6 hs7 hn7 hpl hpl2
    go_upto_region 8 with fail
    clear k0 k1 k2 k3
    go_cut [11] from 12 (fun s11 wx => s11 = .int .i64 0 ∧ wx = w5)
    case first =>
      go_wp2_with fail
      go_meet
      exact ⟨rfl, rfl⟩
    obtain ⟨rfl, rfl⟩ := hcut
    apply_assumption
    (repeat (rename_i x; clear x))
    exact back_tail7 HK.out rfl wc (Below.refl _ _) _ _ _ _ _ _ _ _ _ _ _ _ _ _ _ _ _ _ _ _ _ _ _ _ _ _ _ _ _ _ _ _ _ _ _ _ _ _ _ _ _ _ _ _ _ _ _ _ _ _ _ _ _ _ _ _ _ _ _ _ _ _ _ _ _ _ _ _ _ _ _ _ _ _ _ _ _ _ _ _ _ _ _ _ _ _ _ _ _ _ _ _ _ _ _ _ _ _ _ _ _ _ _ _ _ _ _ _ _ _ _ _ _ _ _ _ _ _ _ _ _ _ _ _ _ _ _ _ _ _ _ _ _ _ _ _ _ _ _ _ _ _ _ _ _ _ _ _ _ _ _ _ _ _ _ _ _ _ _ _ _ _ _ _ _ _ _ _ _ _ _ _ _ _ _ _ _ _ _ _ _ _ _ _ _ _ _ _ _ _ _ _ _ _ _ _ _ _
  · have hnm' : (100 : Int) < nm := by omega
    have hbw0 : Below w.heap.size w (w.alloc (.cells V.cells 39)) := below_one w _
    obtain ⟨W0, hW0⟩ : ∃ W0, w.alloc (.cells V.cells 39) = W0 := ⟨_, rfl⟩
    rw [hW0] at hbw0
    have H := Lib.hid (And.intro hbw0 hW0)
    clear h hbw0 hW0
    go_enter Tryd.func4, Tryd.ntmps4
    go_upto_region 1 with fail
    rw [H.out.2]
    go_wp2_with fail
    refine (works_any W0).mono ?_
    rintro e w11 ⟨rfl, hb11⟩
    have H11 := Lib.hid (H.out.1.trans (hb11.mono H.out.1.size))
    clear hb11
    go_wp2_with fail
    go_ret
    exact ⟨rfl, H11.out⟩
end Go.Proofs.YtlfajfmkljnodaaDoor
