/- The contract of the reader's parse. -/
import Derived.Test.YtmpladnglfiejaaGreatDoorPePT6
namespace Go.Proofs.YtmpladnglfiejaaGreatDoor
open Go.RowKit Go.Shelf
attribute [local go_sem] Oper.semAt_some
set_option maxRecDepth 100000
set_option linter.unusedVariables false
set_option linter.unusedSimpArgs false

set_option maxHeartbeats 4000000 in
theorem parse_own (g : Nat) (A : Option Addr) (n c : Nat) (xs : List UInt8) (w : World) (h : Blk w g 70 #[.slice A n c, .bool true]) (hr : Rd w g A n c xs) (hn : n ≤ 16777216) :
    Calls Tryz.prog 32 #[.pointer (some ⟨g, 0, none⟩)] w (ParsePost g (.slice A n c) xs w) := by
  have hl := hr.len
  have hgl := h.lt
  have hA0 : PA w g w.heap.size (.slice A n c) true IV.zero (w.alloc (.cells IV.zero.cells 30)) :=
    ⟨grownBy_of_below ((Below.refl _ _).alloc (Nat.le_refl _) _), h.alloc _, Blk.new _ _ _, hgl, Nat.le_refl _⟩
  have H := Lib.hid (And.intro hr hA0)
  clear h hr hA0
  refine (callsIn_wide (n := 5)).1 ?_
  refine callsIn_of_wp_marks Tryz.func32 rfl trivial ?_ rfl
  simp only [Tryz.ntmps32, List.size_toArray, List.length_cons, List.length_nil, Nat.reduceAdd, Nat.reduceSub, Array.replicate_succ, Array.replicate_zero, List.push_toArray, List.append_toArray, List.nil_append, List.cons_append]
  refine wpIn_wide.2 ?_
  go_wp2_with fail
  refine (H.out.2.at4 H.out.1 hn 60 60 rfl (by omega)).mono ?_
  rintro e w1 ⟨rfl, h1⟩
  obtain ⟨pe, hpe⟩ : ∃ pe, Pe.at_ xs 60 4 = pe := ⟨_, rfl⟩
  have hpel : pe < 4294967296 := by rw [← hpe]; exact Pe.at_lt4 _ _
  rw [hpe]
  have H1 := Lib.hid (And.intro h1 hpe)
  clear h1 hpe
  go_upto_region 2 with fail
  go_cut [] from 17 (fun wx => PA w g w.heap.size (.slice A n c) (Pe.first xs) IV.zero wx)
  case first =>
    have hf : Pe.first xs = (true && Pe.inb xs 60 4 && (decide (64 ≤ pe) && eqB (xs.take 2) [77, 90] && (Pe.inb xs pe 4 && ((Pe.at_ xs pe 4 : Int) == 17744)))) := by
      unfold Pe.first Pe.pe Pe.begins
      rw [H1.out.2, show (17744 : Int) = ((17744 : Nat) : Int) from rfl, int_beq]; rfl
    have q0 : w1.cell? ⟨g, 0, none⟩ = some (.slice A n c) := (H1.out.1.rd.facts).1 0
    have hlit := lit_frozen w1 [77, 90] _ rfl (by simp) #[.int .u8 77, .int .u8 90] rfl 2 rfl
    have hconv := conv_frozen w1 [77, 90] _ rfl #[.int .u8 77, .int .u8 90] rfl 2 rfl
    have hP := H1.out.1.below hlit.2
    obtain ⟨bg, hbg⟩ : ∃ bg, eqB (xs.take 2) [77, 90] = bg := ⟨_, rfl⟩
    rw [hbg] at hf
    have hpre := hasPrefix_any A (some ⟨w1.heap.size, 0, none⟩) n c 2 2 xs [77, 90] g _ _ (hP.rdd H.out.1) hlit.1
    rw [show xs.take ([77, 90] : List UInt8).length = xs.take 2 from rfl, hbg] at hpre
    have hat := hP.at4 H.out.1 hn pe pe rfl (by omega)
    obtain ⟨N, hN⟩ : ∃ N, Pe.at_ xs pe 4 = N := ⟨_, rfl⟩
    obtain ⟨fa, hfa⟩ : ∃ fa, (true && Pe.inb xs 60 4) = fa := ⟨_, rfl⟩
    obtain ⟨fb, hfb⟩ : ∃ fb, Pe.inb xs pe 4 = fb := ⟨_, rfl⟩
    rw [hN, hfa, hfb] at hat
    rw [hN, hfa, hfb] at hf
    have h1 := H1.out.1
    rw [hfa] at h1 hP
    have HF := Lib.hid (And.intro hf (And.intro hpre (And.intro hat (And.intro h1 hP))))
    clear hf hlit hP hpre hat hbg hN hfa hfb h1
    by_cases c1 : (64 : Int) ≤ pe
    · go_wp2_with fail
      refine HF.out.2.1.mono ?_
      rintro e w2 ⟨rfl, rfl⟩
      cases bg
      · go_wp2_with fail
        refine (HF.out.2.2.2.2.must _).mono ?_
        rintro e w3 ⟨rfl, h3⟩
        have hf := HF.out.1
        rw [decide_eq_true (by omega)] at hf
        simp only [Bool.true_and, Bool.false_and, Bool.and_false] at hf h3
        rw [← hf] at h3
        have H3 := Lib.hid h3
        clear h3 hf
        go_wp2_with fail
        go_meet
        exact H3.out
      · go_wp2_with fail
        refine HF.out.2.2.1.mono ?_
        rintro e w3 ⟨rfl, h3⟩
        have H3 := Lib.hid h3
        clear h3
        go_wp2_with fail
        refine (H3.out.must _).mono ?_
        rintro e w4 ⟨rfl, h4⟩
        have hf := HF.out.1
        rw [decide_eq_true (by omega)] at hf
        simp only [Bool.true_and, ← Bool.and_assoc] at hf
        rw [← hf] at h4
        have H4 := Lib.hid h4
        clear h4 hf
        go_wp2_with fail
        go_meet
        exact H4.out
    · go_wp2_with fail
      refine (HF.out.2.2.2.1.must _).mono ?_
      rintro e w3 ⟨rfl, h3⟩
      have hf := HF.out.1
      rw [decide_eq_false (by omega)] at hf
      simp only [Bool.true_and, Bool.false_and, Bool.and_false] at hf h3
      rw [← hf] at h3
      have H3 := Lib.hid h3
      clear h3 hf
      go_wp2_with fail
      go_meet
      exact H3.out
  obtain ⟨w2, hw2⟩ : ∃ w2, w2 = wc := ⟨_, rfl⟩
  subst hw2
  have H2 := Lib.hid hcut
  clear hcut
  apply_assumption
  (repeat (rename_i x; clear x))
  go_upto_region 5 with fail
  refine (H2.out.at2 H.out.1 hn (pe + 6) _ (by omega) (by omega)).mono ?_
  rintro e w3 ⟨rfl, h3⟩
  have H3 := Lib.hid h3
  clear h3
  go_wp2_with fail
  refine (H3.out.at2 H.out.1 hn (pe + 20) _ (by omega) (by omega)).mono ?_
  rintro e w4 ⟨rfl, h4⟩
  have H4 := Lib.hid h4
  clear h4
  go_wp2_with fail
  refine (H4.out.at2 H.out.1 hn (pe + 24) _ (by omega) (by omega)).mono ?_
  rintro e w5 ⟨rfl, h5⟩
  obtain ⟨many, hmany⟩ : ∃ m, Pe.at_ xs (pe + 6) 2 = m := ⟨_, rfl⟩
  obtain ⟨size, hsize⟩ : ∃ m, Pe.at_ xs (pe + 20) 2 = m := ⟨_, rfl⟩
  obtain ⟨magic, hmagic⟩ : ∃ m, Pe.at_ xs (pe + 24) 2 = m := ⟨_, rfl⟩
  have hmanyl : many < 65536 := by rw [← hmany]; exact Pe.at_lt2 _ _
  have hsizel : size < 65536 := by rw [← hsize]; exact Pe.at_lt2 _ _
  have hmagicl : magic < 65536 := by rw [← hmagic]; exact Pe.at_lt2 _ _
  rw [hmany, hsize, hmagic]
  have H5 := Lib.hid (And.intro h5 (And.intro hmany (And.intro hsize hmagic)))
  clear h5 hmany hsize hmagic
  go_upto_region 5 with fail
  obtain ⟨fs, hfs⟩ : ∃ fs, (Pe.first xs && Pe.second xs) = fs := ⟨_, rfl⟩
  have hsec : fs = (Pe.first xs && Pe.inb xs (pe + 6) 2 && Pe.inb xs (pe + 20) 2 && Pe.inb xs (pe + 24) 2 && (decide (1 ≤ many) && decide (many ≤ 96) && (magic == 523 || magic == 267))) := by
    rw [← hfs]
    unfold Pe.second Pe.magic Pe.opt Pe.many Pe.pe
    rw [H1.out.2, H5.out.2.1, H5.out.2.2.2]
    simp only [Bool.and_assoc]
  have HFS := Lib.hid (And.intro hsec hfs)
  clear hsec hfs
  go_cut [] from 17 (fun wx => PA w g w.heap.size (.slice A n c) fs IV.zero wx)
  case first =>
    have hfin : ∀ ok wx, ok = (decide (1 ≤ many) && decide (many ≤ 96) && (magic == 523 || magic == 267)) → PA w g w.heap.size (.slice A n c) (Pe.first xs && Pe.inb xs (pe + 6) 2 && Pe.inb xs (pe + 20) 2 && Pe.inb xs (pe + 24) 2 && ok) IV.zero wx → PA w g w.heap.size (.slice A n c) fs IV.zero wx := fun ok wx e hp => by
      rw [HFS.out.1, ← e]; exact hp
    have HFIN := Lib.hid hfin
    clear hfin
    by_cases c1 : (1 : Int) ≤ many
    · by_cases c2 : (many : Int) ≤ 96
      · obtain ⟨b3, c3⟩ : ∃ b, ((magic : Int) == 523) = b := ⟨_, rfl⟩
        obtain ⟨b4, c4⟩ : ∃ b, ((magic : Int) == 267) = b := ⟨_, rfl⟩
        have C3 := Lib.hid (And.intro c3 c4)
        cases b3
        · cases b4
          · go_wp2_with fail
            refine (H5.out.1.must _).mono ?_
            rintro e w6 ⟨rfl, h6⟩
            have H6 := Lib.hid (HFIN.out _ _ (by have d3 := C3.out.1; have d4 := C3.out.2; simp only [beq_iff_eq, beq_eq_false_iff_ne, ne_eq] at d3 d4; rw [Bool.eq_iff_iff]; simp; omega) h6)
            clear h6
            go_wp2_with fail
            go_meet
            exact H6.out
          · go_wp2_with fail
            refine (H5.out.1.must _).mono ?_
            rintro e w6 ⟨rfl, h6⟩
            have H6 := Lib.hid (HFIN.out _ _ (by have d3 := C3.out.1; have d4 := C3.out.2; simp only [beq_iff_eq, beq_eq_false_iff_ne, ne_eq] at d3 d4; rw [Bool.eq_iff_iff]; simp; omega) h6)
            clear h6
            go_wp2_with fail
            go_meet
            exact H6.out
        · go_wp2_with fail
          refine (H5.out.1.must _).mono ?_
          rintro e w6 ⟨rfl, h6⟩
          have H6 := Lib.hid (HFIN.out _ _ (by have d3 := C3.out.1; simp only [beq_iff_eq, beq_eq_false_iff_ne, ne_eq] at d3; rw [Bool.eq_iff_iff]; simp; omega) h6)
          clear h6
          go_wp2_with fail
          go_meet
          exact H6.out
      · go_wp2_with fail
        refine (H5.out.1.must _).mono ?_
        rintro e w6 ⟨rfl, h6⟩
        have H6 := Lib.hid (HFIN.out _ _ (by rw [Bool.eq_iff_iff]; simp; omega) h6)
        clear h6
        go_wp2_with fail
        go_meet
        exact H6.out
    · go_wp2_with fail
      refine (H5.out.1.must _).mono ?_
      rintro e w6 ⟨rfl, h6⟩
      have H6 := Lib.hid (HFIN.out _ _ (by rw [Bool.eq_iff_iff]; simp; omega) h6)
      clear h6
      go_wp2_with fail
      go_meet
      exact H6.out
  apply_assumption
  (repeat (rename_i x; clear x))
  exact parse_tail6 ⟨hl, H1.out.2, H5.out.2.1, H5.out.2.2.1, H5.out.2.2.2, HFS.out.2, hpel, hmanyl, hsizel, hmagicl⟩ H.out.1 hn hgl wc hcut _ _ _ _ _ _ _ _ _ _ _ _ _ _ _ _ _ _ _ _ _ _ _ _ _ _ _ _ _ _ _ _ _ _ _ _ _ _ _ _ _ _ _ _ _ _ _ _ _ _ _ _ _ _ _ _ _ _ _ _ _ _ _ _ _ _ _ _ _ _ _ _ _ _ _ _ _ _ _ _ _ _ _ _ _ _ _ _ _ _ _ _ _ _ _ _ _ _ _ _ _ _ _ _ _ _ _ _ _ _ _ _ _ _ _ _ _ _ _ _ _ _ _ _ _ _ _ _ _ _ _ _ _ _ _ _ _ _ _ _ _ _ _ _ _ _ _ _ _ _ _ _ _ _ _ _ _ _ _ _ _ _ _ _ _ _ _ _ _ _ _ _ _ _ _ _ _ _ _ _ _ _ _ _ _ _ _ _ _ _ _ _ _
end Go.Proofs.YtmpladnglfiejaaGreatDoor
