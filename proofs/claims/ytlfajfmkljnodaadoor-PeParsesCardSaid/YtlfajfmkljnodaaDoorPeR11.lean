/- The reference's Parse: from its beginning. -/
import Derived.Test.YtlfajfmkljnodaaDoorPeR10
import Derived.Test.YtlfajfmkljnodaaDoorPeR2
namespace Go.Proofs.YtlfajfmkljnodaaDoor
open Go.RowKit
set_option maxRecDepth 100000
set_option linter.unusedVariables false
set_option linter.unusedSimpArgs false
namespace Pe
theorem num4_eq : ∀ (l : List UInt8), l.length = 4 → (num l == 17744) = eqB l [80, 69, 0, 0]
  | [a, b, c, d], _ => by
    have ha := a.toNat_lt
    have hb := b.toNat_lt
    have hc := c.toNat_lt
    have hd := d.toNat_lt
    unfold eqB
    rw [Bool.eq_iff_iff, beq_iff_eq, beq_iff_eq]
    constructor
    · intro h
      simp only [num] at h
      have h1 : a = 80 := UInt8.toNat_inj.1 (by show a.toNat = 80; omega)
      have h2 : b = 69 := UInt8.toNat_inj.1 (by show b.toNat = 69; omega)
      have h3 : c = 0 := UInt8.toNat_inj.1 (by show c.toNat = 0; omega)
      have h4 : d = 0 := UInt8.toNat_inj.1 (by show d.toNat = 0; omega)
      rw [h1, h2, h3, h4]
    · intro h
      injection h with h1 h
      injection h with h2 h
      injection h with h3 h
      injection h with h4 h
      subst h1 h2 h3 h4
      rfl
theorem pe_sign (xs : List UInt8) (p : Nat) : (inb xs p 4 && eqB ((xs.drop p).take 4) [80, 69, 0, 0]) = (inb xs p 4 && (at_ xs p 4 == 17744)) := by
  unfold inb at_
  by_cases h : p + 4 ≤ xs.length
  · rw [if_pos h, num4_eq _ (by simp; omega)]
  · rw [decide_eq_false h]; rfl
theorem mz_sign (xs : List UInt8) (h : 64 ≤ xs.length) : (inb xs 0 2 && eqB ((xs.drop 0).take 2) [77, 90]) = begins xs := by
  unfold inb begins eqB
  rw [decide_eq_true (by omega), Bool.true_and, List.drop_zero]
theorem first_head {xs : List UInt8} (h : first xs = false) : head xs = false := by unfold head; rw [h]; rfl
theorem second_head {xs : List UInt8} (h : second xs = false) : head xs = false := by unfold head; rw [h, Bool.and_false, Bool.false_and]
theorem io_head {xs : List UInt8} (h : inb xs (opt xs + 60) 4 = false) : head xs = false := by unfold head third; rw [h, Bool.and_false, Bool.false_and, Bool.and_false]
end Pe
set_option maxHeartbeats 4000000 in
theorem refParse_any (A : Option Addr) (n c : Nat) (xs : List UInt8) (w : World) (h : Rd w w.heap.size A n c xs) (hn : n ≤ 16777216) : Calls Tryd.prog 16 #[.slice A n c] w (RefOut xs w) := by
  have hl := h.len
  have H := Lib.hid h
  clear h
  obtain ⟨w1, hw1⟩ : ∃ x, w.alloc (.cells #[.bool false, .int .i64 0, .int .i64 0, .int .u32 0, .slice none 0 0, .int .u32 0, .int .u32 0, .slice none 0 0] 28) = x := ⟨_, rfl⟩
  have hB1 : Bi w1 w.heap.size IV.zero := by rw [← hw1]; exact Blk.new w _ _
  have hb1 : Below w.heap.size w w1 := by rw [← hw1]; exact (Below.refl _ _).alloc (Nat.le_refl _) _
  have hs1 : w1.heap.size = w.heap.size + 1 := by rw [← hw1]; simp
  have H1 := Lib.hid (And.intro hB1 hb1)
  clear hB1 hb1
  go_enter Tryd.func16, Tryd.ntmps16
  go_upto_region 1 with fail
  clear hw1
  have hnb : ¬ (16777216 : Int) < n := by omega
  have HS1 := Lib.hid hs1
  clear hs1
  go_upto_region 2 with fail
  have hs1 := HS1.out
  obtain ⟨zb, hzb⟩ : ∃ z, w1.heap.size = z := ⟨_, rfl⟩
  obtain ⟨w2, hw2⟩ : ∃ x, w1.alloc (.cells #[.bool false, .int .i64 0, .int .i64 0, .int .u32 0, .slice none 0 0, .int .u32 0, .int .u32 0, .slice none 0 0] 28) = x := ⟨_, rfl⟩
  have hBz : Bi w2 zb IV.zero := by rw [← hw2, ← hzb]; exact Blk.new w1 _ _
  have hb12 : Below w1.heap.size w1 w2 := by rw [← hw2]; exact (Below.refl _ _).alloc (Nat.le_refl _) _
  rw [hw2, hzb]
  clear hw2
  go_upto_region 4 with fail
  have hzl : zb < w2.heap.size := hBz.lt
  have hB2 : Bi w2 w.heap.size IV.zero := H1.out.1.below hb12 (by omega)
  have hb2 : Below w.heap.size w w2 := H1.out.2.trans (hb12.mono (by omega))
  have hsz2 := hb2.size
  have hnum := numberR_any A n c 60 4 60 4 xs w2 ((H.out.below hb2).more hsz2) (by omega) rfl rfl (by omega) (.inr (.inr rfl))
  obtain ⟨i60, hi60⟩ : ∃ b, Pe.inb xs 60 4 = b := ⟨_, rfl⟩
  obtain ⟨pe, hpe⟩ : ∃ N, Pe.at_ xs 60 4 = N := ⟨_, rfl⟩
  have hpel : pe < 4294967296 := by rw [← hpe]; exact Pe.at_lt4 _ _
  rw [hi60, hpe] at hnum
  have H2 := Lib.hid (And.intro hB2 (And.intro hBz (And.intro hb2 (And.intro hnum (And.intro hi60 hpe)))))
  clear hB2 hBz hb2 hb12 hnum hi60 hpe
  go_wp2_with fail
  refine H2.out.2.2.2.1.mono ?_
  rintro e w3 ⟨rfl, hb23⟩
  have hrl := H2.out.1.lt
  have hbw3 : Below w.heap.size w w3 := H2.out.2.2.1.trans (hb23.mono hsz2)
  have H3 := Lib.hid (And.intro (H2.out.1.below hb23 hrl) (And.intro (H2.out.2.1.below hb23 hzl) hbw3))
  have hs23 := hb23.size
  have hfirst : Pe.first xs = (i60 && (decide (64 ≤ pe) && Pe.begins xs && (Pe.inb xs pe 4 && (Pe.at_ xs pe 4 == 17744)))) := by
    unfold Pe.first Pe.pe
    rw [H2.out.2.2.2.2.1, H2.out.2.2.2.2.2]
  have HF := Lib.hid hfirst
  clear hb23 hbw3 hfirst
  cases i60
  · have hhf : Pe.head xs = false := Pe.first_head (by rw [HF.out]; rfl)
    have HE := Lib.hid (And.intro (Pe.err9 (by rw [hl]; exact hn) hhf) (And.intro H3.out.2.1 (And.intro H3.out.1 H3.out.2.2)))
    clear hhf
    go_wp2_with (first
          | ((with_reducible refine at_load_img ?_); refine wpList_load_img rfl _ rfl zb IV.zero rfl HE.out.2.1 ?_)
          | ((with_reducible refine at_store_img ?_); refine wpList_store_img rfl _ _ rfl w.heap.size IV.zero IV.zero rfl rfl HE.out.2.2.1 IV.zero_one ?_; intro wz hBz hgz)
          | fail)
    refine bodyPost_ret (results_cellTmp Tryd.results16 _ _ _ _ _ rfl (load_img hBz)) rfl ⟨HE.out.2.2.2.grown hgz HE.out.2.2.2.size (fun j e => by cases e; exact Nat.le_refl _), IV.zero, ?_, IV.zero_one, fun _ => rfl, fun h => absurd (HE.out.1.symm.trans h) (by decide)⟩
    rw [HE.out.1]; rfl
  have hn64 : 64 ≤ n := by have h1 := H2.out.2.2.2.2.1; unfold Pe.inb at h1; simp at h1; omega
  have hmz := beginsR_any A n c 0 0 xs [77, 90] w3 ((H.out.below H3.out.2.2).more H3.out.2.2.size) (by omega) rfl (by omega) (by decide) (.string { data := #[77, 90] }) rfl
  rw [show ([77, 90] : List UInt8).length = 2 from rfl, Pe.mz_sign xs (by omega)] at hmz
  obtain ⟨bmz, hbmz⟩ : ∃ b, Pe.begins xs = b := ⟨_, rfl⟩
  rw [hbmz] at hmz
  have H4 := Lib.hid (And.intro hmz hbmz)
  clear hmz hbmz
  go_wp2_with fail
  refine H4.out.1.mono ?_
  rintro e w4 ⟨rfl, hb34⟩
  have H5 := Lib.hid (And.intro (H3.out.1.below hb34 (by omega)) (And.intro (H3.out.2.1.below hb34 (by omega)) (H3.out.2.2.trans (hb34.mono (by omega)))))
  have hs34 := hb34.size
  clear hb34
  cases bmz
  · have hhf : Pe.head xs = false := Pe.first_head (by rw [HF.out, H4.out.2]; simp)
    have HE := Lib.hid (And.intro (Pe.err9 (by rw [hl]; exact hn) hhf) (And.intro H5.out.2.1 (And.intro H5.out.1 H5.out.2.2)))
    clear hhf
    go_wp2_with (first
          | ((with_reducible refine at_load_img ?_); refine wpList_load_img rfl _ rfl zb IV.zero rfl HE.out.2.1 ?_)
          | ((with_reducible refine at_store_img ?_); refine wpList_store_img rfl _ _ rfl w.heap.size IV.zero IV.zero rfl rfl HE.out.2.2.1 IV.zero_one ?_; intro wz hBz hgz)
          | fail)
    refine bodyPost_ret (results_cellTmp Tryd.results16 _ _ _ _ _ rfl (load_img hBz)) rfl ⟨HE.out.2.2.2.grown hgz HE.out.2.2.2.size (fun j e => by cases e; exact Nat.le_refl _), IV.zero, ?_, IV.zero_one, fun _ => rfl, fun h => absurd (HE.out.1.symm.trans h) (by decide)⟩
    rw [HE.out.1]; rfl
  by_cases h64 : pe < 64
  · have h64' : (pe : Int) < 64 := by omega
    have hhf : Pe.head xs = false := Pe.first_head (by rw [HF.out, decide_eq_false (by omega : ¬ 64 ≤ pe)]; simp)
    have HE := Lib.hid (And.intro (Pe.err9 (by rw [hl]; exact hn) hhf) (And.intro H5.out.2.1 (And.intro H5.out.1 H5.out.2.2)))
    clear hhf
    go_wp2_with (first
          | ((with_reducible refine at_load_img ?_); refine wpList_load_img rfl _ rfl zb IV.zero rfl HE.out.2.1 ?_)
          | ((with_reducible refine at_store_img ?_); refine wpList_store_img rfl _ _ rfl w.heap.size IV.zero IV.zero rfl rfl HE.out.2.2.1 IV.zero_one ?_; intro wz hBz hgz)
          | fail)
    refine bodyPost_ret (results_cellTmp Tryd.results16 _ _ _ _ _ rfl (load_img hBz)) rfl ⟨HE.out.2.2.2.grown hgz HE.out.2.2.2.size (fun j e => by cases e; exact Nat.le_refl _), IV.zero, ?_, IV.zero_one, fun _ => rfl, fun h => absurd (HE.out.1.symm.trans h) (by decide)⟩
    rw [HE.out.1]; rfl
  have h64' : ¬ (pe : Int) < 64 := by omega
  have hpp := beginsR_any A n c pe (pe : Int) xs [80, 69, 0, 0] w4 ((H.out.below H5.out.2.2).more H5.out.2.2.size) (by omega) rfl (by omega) (by decide) (.string { data := #[80, 69, 0, 0] }) rfl
  rw [show ([80, 69, 0, 0] : List UInt8).length = 4 from rfl, Pe.pe_sign] at hpp
  obtain ⟨bpe, hbpe⟩ : ∃ b, (Pe.inb xs pe 4 && (Pe.at_ xs pe 4 == 17744)) = b := ⟨_, rfl⟩
  rw [hbpe] at hpp
  have H6 := Lib.hid (And.intro hpp hbpe)
  clear hpp hbpe
  go_wp2_with fail
  refine H6.out.1.mono ?_
  rintro e w5 ⟨rfl, hb45⟩
  have H7 := Lib.hid (And.intro (H5.out.1.below hb45 (by omega)) (And.intro (H5.out.2.1.below hb45 (by omega)) (H5.out.2.2.trans (hb45.mono (by omega)))))
  have hs45 := hb45.size
  clear hb45
  cases bpe
  · have hhf : Pe.head xs = false := Pe.first_head (by rw [HF.out, H6.out.2]; simp)
    have HE := Lib.hid (And.intro (Pe.err9 (by rw [hl]; exact hn) hhf) (And.intro H7.out.2.1 (And.intro H7.out.1 H7.out.2.2)))
    clear hhf
    go_wp2_with (first
          | ((with_reducible refine at_load_img ?_); refine wpList_load_img rfl _ rfl zb IV.zero rfl HE.out.2.1 ?_)
          | ((with_reducible refine at_store_img ?_); refine wpList_store_img rfl _ _ rfl w.heap.size IV.zero IV.zero rfl rfl HE.out.2.2.1 IV.zero_one ?_; intro wz hBz hgz)
          | fail)
    refine bodyPost_ret (results_cellTmp Tryd.results16 _ _ _ _ _ rfl (load_img hBz)) rfl ⟨HE.out.2.2.2.grown hgz HE.out.2.2.2.size (fun j e => by cases e; exact Nat.le_refl _), IV.zero, ?_, IV.zero_one, fun _ => rfl, fun h => absurd (HE.out.1.symm.trans h) (by decide)⟩
    rw [HE.out.1]; rfl
  have hfirst : Pe.first xs = true := by rw [HF.out, H4.out.2, H6.out.2, decide_eq_true (by omega : 64 ≤ pe)]; rfl
  have hpx : Pe.pe xs = pe := H2.out.2.2.2.2.2
  obtain ⟨opt, hopt⟩ : ∃ o, pe + 24 = o := ⟨_, rfl⟩
  have hoi : (pe : Int) + 24 = (opt : Int) := by omega
  have hox : Pe.opt xs = opt := by unfold Pe.opt; rw [hpx, hopt]
  obtain ⟨m, hm⟩ : ∃ N, Pe.at_ xs (pe + 6) 2 = N := ⟨_, rfl⟩
  obtain ⟨sz, hsz⟩ : ∃ N, Pe.at_ xs (pe + 20) 2 = N := ⟨_, rfl⟩
  obtain ⟨mg, hmg⟩ : ∃ N, Pe.at_ xs opt 2 = N := ⟨_, rfl⟩
  obtain ⟨hd, hhd⟩ : ∃ N, Pe.at_ xs (opt + 60) 4 = N := ⟨_, rfl⟩
  have hml : m < 65536 := by rw [← hm]; exact Pe.at_lt2 _ _
  have hszl : sz < 65536 := by rw [← hsz]; exact Pe.at_lt2 _ _
  have hmgl : mg < 65536 := by rw [← hmg]; exact Pe.at_lt2 _ _
  have hhdl : hd < 4294967296 := by rw [← hhd]; exact Pe.at_lt4 _ _
  have hmap : ([(pe + 6, 2), (pe + 20, 2), (opt, 2), (opt + 60, 4)].map fun p : Nat × Nat => Pe.at_ xs p.1 p.2).map natV = [.int .i64 (m : Int), .int .i64 (sz : Int), .int .i64 (mg : Int), .int .i64 (hd : Int)] := by
    simp only [List.map_cons, List.map_nil, hm, hsz, hmg, hhd, natV]
  have hmx : Pe.many xs = m := by unfold Pe.many; rw [hpx, hm]
  have hsx : Pe.size xs = sz := by unfold Pe.size; rw [hpx, hsz]
  have hgx : Pe.magic xs = mg := by unfold Pe.magic; rw [hox, hmg]
  have hhx : Pe.headers xs = hd := by unfold Pe.headers; rw [hox, hhd]
  have hsecond : Pe.second xs = (Pe.inb xs (pe + 6) 2 && Pe.inb xs (pe + 20) 2 && Pe.inb xs opt 2 && (decide (1 ≤ m) && decide (m ≤ 96) && (mg == 523 || mg == 267))) := by
    unfold Pe.second
    rw [hpx, hox, hmx, hgx]
  obtain ⟨W1, hW1⟩ : ∃ W1, w5.alloc (.cells #[.int .i64 ((pe : Int) + 6), .int .i64 2, .int .i64 ((pe : Int) + 20), .int .i64 2, .int .i64 (opt : Int), .int .i64 2, .int .i64 ((opt : Int) + 60), .int .i64 4] 67) = W1 := ⟨_, rfl⟩
  have hps : ([(pe + 6, 2), (pe + 20, 2), (opt, 2), (opt + 60, 4)].flatMap pairC).toArray = #[.int .i64 ((pe : Int) + 6), .int .i64 2, .int .i64 ((pe : Int) + 20), .int .i64 2, .int .i64 (opt : Int), .int .i64 2, .int .i64 ((opt : Int) + 60), .int .i64 4] := by
    simp [pairC]
  have hB1 : Blk W1 w5.heap.size 67 ([(pe + 6, 2), (pe + 20, 2), (opt, 2), (opt + 60, 4)].flatMap pairC).toArray := by
    rw [← hW1, hps]
    exact Blk.new w5 _ _
  have hb1 : Below w.heap.size w W1 := by rw [← hW1]; exact H7.out.2.2.alloc H7.out.2.2.size _
  have hb51 : Below w5.heap.size w5 W1 := by rw [← hW1]; exact (Below.refl _ _).alloc (Nat.le_refl _) _
  have hs1W : W1.heap.size = w5.heap.size + 1 := by rw [← hW1]; simp
  have hnum := numbersR_any A n c w5.heap.size 4 xs [(pe + 6, 2), (pe + 20, 2), (opt, 2), (opt + 60, 4)] W1 ((H.out.below hb1).more hb1.size) (by omega) hB1 rfl (by omega) (by
    intro q hq
    simp only [List.mem_cons, List.not_mem_nil, or_false] at hq
    rcases hq with rfl | rfl | rfl | rfl
    · exact ⟨by dsimp only; omega, .inr (.inl rfl)⟩
    · exact ⟨by dsimp only; omega, .inr (.inl rfl)⟩
    · exact ⟨by dsimp only; omega, .inr (.inl rfl)⟩
    · exact ⟨by dsimp only; omega, .inr (.inr rfl)⟩)
  obtain ⟨b, hb⟩ : ∃ b, (([(pe + 6, 2), (pe + 20, 2), (opt, 2), (opt + 60, 4)] : List (Nat × Nat)).all fun p => Pe.inb xs p.1 p.2) = b := ⟨_, rfl⟩
  rw [hb, hmap] at hnum
  have hbx : b = (Pe.inb xs (pe + 6) 2 && (Pe.inb xs (pe + 20) 2 && (Pe.inb xs opt 2 && Pe.inb xs (opt + 60) 4))) := by
    rw [← hb]; simp only [List.all_cons, List.all_nil, Bool.and_true]
  have hdx : Pe.dirs xs = opt + if mg == 523 then 112 else 96 := by unfold Pe.dirs Pe.plus; rw [hox, hgx]
  have H8 := Lib.hid (And.intro hnum (And.intro hb1 (And.intro hb51 (And.intro hbx (And.intro hsecond (And.intro hfirst (And.intro hox (And.intro hmx (And.intro hsx (And.intro hgx (And.intro hhx hdx)))))))))))
  have hopl : opt ≤ 4294967400 := by omega
  clear hnum hb1 hb51 hbx hsecond hfirst hox hmx hsx hgx hhx hdx hB1 hps hmap hb hm hsz hmg hhd hpx hopt
  go_upto_region 8 with fail
  go_cut [6, 8] from 17 (fun s6 s8 wx => s6 = .bool b ∧ Below W1.heap.size W1 wx ∧ (b = true → OwnC 3 1 wx W1.heap.size wx.heap.size s8 4 [.int .i64 (m : Int), .int .i64 (sz : Int), .int .i64 (mg : Int), .int .i64 (hd : Int)]))
  case first =>
    go_wp2_with fail
    refine H8.out.1.mono ?_
    rintro e w6 ⟨hbn, v, rfl, hv⟩
    clear hW1
    have HV := Lib.hid (And.intro hbn hv)
    clear hbn hv
    go_wp2_with fail
    go_meet
    exact ⟨rfl, HV.out.1, HV.out.2⟩
  obtain ⟨rfl, hbn, hv⟩ := hcut
  apply_assumption
  refine wp_seq_k fun K hK => ?_
  obtain ⟨w6, hw6'⟩ : ∃ x, wc = x := ⟨_, rfl⟩
  rw [hw6'] at hbn hv ⊢
  clear hw6' wc hW1
  have hw6 : Below w.heap.size w w6 := H8.out.2.1.trans (hbn.mono H8.out.2.1.size)
  have h56 : Below w5.heap.size w5 w6 := H8.out.2.2.1.trans (hbn.mono (by omega))
  have H9 := Lib.hid (And.intro (H7.out.1.below h56 (by omega)) (And.intro (H7.out.2.1.below h56 (by omega)) hw6))
  have hs56 := h56.size
  have HV := Lib.hid hv
  clear hbn hw6 h56 hv
  obtain ⟨s8, hs8⟩ : ∃ x, u8 = x := ⟨_, rfl⟩
  rw [hs8] at HV ⊢
  clear hs8
  have HHS := Lib.hid (And.intro hs56 trivial)
  go_cut [] from 17 (fun wx => wx = w6 ∧ b = true ∧ 1 ≤ m ∧ m ≤ 96 ∧ (mg = 267 ∨ mg = 523))
  case first =>
    cases b
    · have hhf : Pe.head xs = false := by
        cases hq : Pe.second xs with
        | false => exact Pe.second_head hq
        | true =>
          have h1 := H8.out.2.2.2.2.1
          rw [hq] at h1
          have h2 := H8.out.2.2.2.1
          refine Pe.io_head ?_
          rw [H8.out.2.2.2.2.2.2.1]
          cases hi : Pe.inb xs (opt + 60) 4 with
          | false => rfl
          | true =>
            rw [hi] at h2
            revert h1 h2
            cases Pe.inb xs (pe + 6) 2 <;> cases Pe.inb xs (pe + 20) 2 <;> cases Pe.inb xs opt 2 <;> simp
      have HE := Lib.hid (And.intro (Pe.err9 (by rw [hl]; exact hn) hhf) (And.intro H9.out.2.1 (And.intro H9.out.1 H9.out.2.2)))
      clear hhf
      skip
      go_wp2_with (first
            | ((with_reducible refine at_load_img ?_); refine wpList_load_img rfl _ rfl zb IV.zero rfl HE.out.2.1 ?_)
            | ((with_reducible refine at_store_img ?_); refine wpList_store_img rfl _ _ rfl w.heap.size IV.zero IV.zero rfl rfl HE.out.2.2.1 IV.zero_one ?_; intro wz hBz hgz)
            | fail)
      refine bodyPost_ret (results_cellTmp Tryd.results16 _ _ _ _ _ rfl (load_img hBz)) rfl ⟨HE.out.2.2.2.grown hgz HE.out.2.2.2.size (fun j e => by cases e; exact Nat.le_refl _), IV.zero, ?_, IV.zero_one, fun _ => rfl, fun h => absurd (HE.out.1.symm.trans h) (by decide)⟩
      rw [HE.out.1]; rfl
    have hown := HV.out (by first | rfl | trivial)
    obtain ⟨gx, cx, ex, _, _⟩ := hown.1.form (by omega)
    have hgx := hown.2 gx (by rw [ex]; rfl)
    have hgx0 : W1.heap.size ≤ gx := (hown.1.lt gx (by rw [ex]; rfl)).1
    subst ex
    have p0 : w6.cell? ⟨gx, 0, none⟩ = some (.int .i64 (m : Int)) := hown.1.cellAt 0 (by omega)
    have p1 : w6.cell? ⟨gx, 1, none⟩ = some (.int .i64 (sz : Int)) := hown.1.cellAt 1 (by omega)
    have p2 : w6.cell? ⟨gx, 2, none⟩ = some (.int .i64 (mg : Int)) := hown.1.cellAt 2 (by omega)
    have p3 : w6.cell? ⟨gx, 3, none⟩ = some (.int .i64 (hd : Int)) := hown.1.cellAt 3 (by omega)
    have HP := Lib.hid (And.intro p1 p3)
    have hall : Pe.inb xs (pe + 6) 2 = true ∧ Pe.inb xs (pe + 20) 2 = true ∧ Pe.inb xs opt 2 = true ∧ Pe.inb xs (opt + 60) 4 = true := by
      have h1 := H8.out.2.2.2.1
      simpa only [Bool.and_eq_true] using h1.symm
    have hs2 : Pe.second xs = (decide (1 ≤ m) && decide (m ≤ 96) && (mg == 523 || mg == 267)) := by
      rw [H8.out.2.2.2.2.1, hall.1, hall.2.1, hall.2.2.1]; rfl
    have HA := Lib.hid (And.intro hall hs2)
    clear hown p1 p3 hall hs2
    by_cases m1 : m < 1
    · have m1' : (m : Int) < 1 := by omega
      have hhf : Pe.head xs = false := Pe.second_head (by rw [HA.out.2, decide_eq_false (by omega : ¬ 1 ≤ m)]; rfl)
      have HE := Lib.hid (And.intro (Pe.err9 (by rw [hl]; exact hn) hhf) (And.intro H9.out.2.1 (And.intro H9.out.1 H9.out.2.2)))
      clear hhf
      go_wp2_with (first
            | ((with_reducible refine at_load_img ?_); refine wpList_load_img rfl _ rfl zb IV.zero rfl HE.out.2.1 ?_)
            | ((with_reducible refine at_store_img ?_); refine wpList_store_img rfl _ _ rfl w.heap.size IV.zero IV.zero rfl rfl HE.out.2.2.1 IV.zero_one ?_; intro wz hBz hgz)
            | fail)
      refine bodyPost_ret (results_cellTmp Tryd.results16 _ _ _ _ _ rfl (load_img hBz)) rfl ⟨HE.out.2.2.2.grown hgz HE.out.2.2.2.size (fun j e => by cases e; exact Nat.le_refl _), IV.zero, ?_, IV.zero_one, fun _ => rfl, fun h => absurd (HE.out.1.symm.trans h) (by decide)⟩
      rw [HE.out.1]; rfl
    have m1' : ¬ (m : Int) < 1 := by omega
    by_cases m2 : 96 < m
    · have m2' : (96 : Int) < m := by omega
      have hhf : Pe.head xs = false := Pe.second_head (by rw [HA.out.2, decide_eq_false (by omega : ¬ m ≤ 96)]; simp)
      have HE := Lib.hid (And.intro (Pe.err9 (by rw [hl]; exact hn) hhf) (And.intro H9.out.2.1 (And.intro H9.out.1 H9.out.2.2)))
      clear hhf
      go_wp2_with (first
            | ((with_reducible refine at_load_img ?_); refine wpList_load_img rfl _ rfl zb IV.zero rfl HE.out.2.1 ?_)
            | ((with_reducible refine at_store_img ?_); refine wpList_store_img rfl _ _ rfl w.heap.size IV.zero IV.zero rfl rfl HE.out.2.2.1 IV.zero_one ?_; intro wz hBz hgz)
            | fail)
      refine bodyPost_ret (results_cellTmp Tryd.results16 _ _ _ _ _ rfl (load_img hBz)) rfl ⟨HE.out.2.2.2.grown hgz HE.out.2.2.2.size (fun j e => by cases e; exact Nat.le_refl _), IV.zero, ?_, IV.zero_one, fun _ => rfl, fun h => absurd (HE.out.1.symm.trans h) (by decide)⟩
      rw [HE.out.1]; rfl
    have m2' : ¬ (96 : Int) < m := by omega
    by_cases g1 : mg = 267
    · have c1 : ((mg : Int) != 267) = false := by simp; omega
      have G1 := Lib.hid g1
      clear g1
      go_wp2_with fail
      go_meet
      exact ⟨rfl, rfl, by omega, by omega, .inl G1.out⟩
    have c1 : ((mg : Int) != 267) = true := by simp; omega
    by_cases g2 : mg = 523
    · have c2 : ((mg : Int) != 523) = false := by simp; omega
      have G2 := Lib.hid g2
      clear g2
      go_wp2_with fail
      go_meet
      exact ⟨rfl, rfl, by omega, by omega, .inr G2.out⟩
    have c2 : ((mg : Int) != 523) = true := by simp; omega
    have hhf : Pe.head xs = false := Pe.second_head (by rw [HA.out.2]; simp; omega)
    have HE := Lib.hid (And.intro (Pe.err9 (by rw [hl]; exact hn) hhf) (And.intro H9.out.2.1 (And.intro H9.out.1 H9.out.2.2)))
    clear hhf
    go_wp2_with (first
          | ((with_reducible refine at_load_img ?_); refine wpList_load_img rfl _ rfl zb IV.zero rfl HE.out.2.1 ?_)
          | ((with_reducible refine at_store_img ?_); refine wpList_store_img rfl _ _ rfl w.heap.size IV.zero IV.zero rfl rfl HE.out.2.2.1 IV.zero_one ?_; intro wz hBz hgz)
          | fail)
    refine bodyPost_ret (results_cellTmp Tryd.results16 _ _ _ _ _ rfl (load_img hBz)) rfl ⟨HE.out.2.2.2.grown hgz HE.out.2.2.2.size (fun j e => by cases e; exact Nat.le_refl _), IV.zero, ?_, IV.zero_one, fun _ => rfl, fun h => absurd (HE.out.1.symm.trans h) (by decide)⟩
    rw [HE.out.1]; rfl
  obtain ⟨rfl, rfl, m1, m2, hg⟩ := hcut
  refine hK _ _ ?_
  have hown := HV.out (by first | rfl | trivial)
  obtain ⟨gx, cx, ex, _, _⟩ := hown.1.form (by omega)
  have hgx := hown.2 gx (by rw [ex]; rfl)
  have hgx0 : W1.heap.size ≤ gx := (hown.1.lt gx (by rw [ex]; rfl)).1
  subst ex
  have p0 : wc.cell? ⟨gx, 0, none⟩ = some (.int .i64 (m : Int)) := hown.1.cellAt 0 (by omega)
  have p1 : wc.cell? ⟨gx, 1, none⟩ = some (.int .i64 (sz : Int)) := hown.1.cellAt 1 (by omega)
  have p2 : wc.cell? ⟨gx, 2, none⟩ = some (.int .i64 (mg : Int)) := hown.1.cellAt 2 (by omega)
  have p3 : wc.cell? ⟨gx, 3, none⟩ = some (.int .i64 (hd : Int)) := hown.1.cellAt 3 (by omega)
  have HP := Lib.hid (And.intro p1 p3)
  have hall : Pe.inb xs (pe + 6) 2 = true ∧ Pe.inb xs (pe + 20) 2 = true ∧ Pe.inb xs opt 2 = true ∧ Pe.inb xs (opt + 60) 4 = true := by
    have h1 := H8.out.2.2.2.1
    simpa only [Bool.and_eq_true] using h1.symm
  have hs2 : Pe.second xs = (decide (1 ≤ m) && decide (m ≤ 96) && (mg == 523 || mg == 267)) := by
    rw [H8.out.2.2.2.2.1, hall.1, hall.2.1, hall.2.2.1]; rfl
  have HA := Lib.hid (And.intro hall hs2)
  clear hown p1 p3 hall hs2
  exact ref_tail8 (mg := mg) (dirs := opt + if mg == 523 then 112 else 96) (fun C hC => ⟨hl, hn, H8.out.2.2.2.2.2.1, by rw [HA.out.2]; simp; omega, HA.out.1.2.2.2, H8.out.2.2.2.2.2.2.1, H8.out.2.2.2.2.2.2.2.2.2.2.2, H8.out.2.2.2.2.2.2.2.1, H8.out.2.2.2.2.2.2.2.2.1, H8.out.2.2.2.2.2.2.2.2.2.2.1, hC, hopl, by split <;> omega, by omega, hszl, hhdl⟩) H8.out.2.2.2.2.2.2.2.2.2.1 H.out _ H9.out.2.2 H9.out.1 H9.out.2.1 ⟨by omega, by omega⟩ ⟨by omega, hgx⟩ p0 HP.out.1 p2 HP.out.2 _ _ _ _ _ _ _ _ _ _ _ _ _ _ _ _ _ _ _ _ _ _ _ _ _ _ _ _ _ _ _ _ _ _ _ _ _ _ _ _ _ _ _ _ _ _ _ _ _ _ _ _ _ _ _ _ _ _ _ _ _ _ _ _ _ _ _ _ _ _ _ _ _ _ _ _ _ _ _ _ _ _ _ _ _ _ _ _ _ _ _ _ _ _ _ _ _ _ _ _ _ _ _ _ _ _ _ _ _ _ _ _ _ _ _ _ _ _ _ _ _ _ _ _ _ _ _ _ _ _ _ _ _ _ _ _ _ _ _ _ _ _ _ _ _ _ _ _ _ _ _ _ _ _ _ _ _ _ _ _ _ _ _ _ _ _ _ _ _ _ _ _ _ _ _ _ _ _ _ _ _ _ _ _ _ _ _ _ _ _ _ _ _ _ _ _ _ _ _ _ _ _ _ _ _ _ _ _ _ _ _ _ _ _ _ _ _ _ _ _ _ _ _ _ _ _ _ _ _ _ _ _ _ _ _ _ _ _ _ _ _ _ _ _ _ _ _ _ _ _ _ _ _ _ _
end Go.Proofs.YtlfajfmkljnodaaDoor
