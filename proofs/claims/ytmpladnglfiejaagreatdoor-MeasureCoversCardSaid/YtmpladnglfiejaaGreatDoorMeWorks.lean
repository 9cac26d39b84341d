/- The anchor's contract. -/
import Derived.Test.YtmpladnglfiejaaGreatDoorMeW1
import Derived.Test.YtmpladnglfiejaaGreatDoorJh
import Derived.Test.YtmpladnglfiejaaGreatDoorPeBrought
import Derived.Test.YtmpladnglfiejaaGreatDoorJg
import Derived.BigQuiet
import Derived.Deep.QuietTactic
namespace Go.Proofs.YtmpladnglfiejaaGreatDoor
open Go.RowKit
set_option maxRecDepth 100000
set_option linter.unusedVariables false
set_option linter.unusedSimpArgs false
set_option maxHeartbeats 8000000 in
theorem meWorks_any (w : World) : Calls Tryz.prog 5 #[] w fun e w' => e = .returned (.bool true) ∧ Below w.heap.size w w' := by
  go_enter Tryz.func5, Tryz.ntmps5
  go_wp2_with fail
  refine (brought_any ⟨false, .slice none 0 0, .slice none 0 0, .slice (some ⟨w.heap.size + 1, 0, none⟩) 1 1, .slice none 0 0, .slice none 0 0, .slice (some ⟨w.heap.size + 1 + 1 + 1, 0, none⟩) 1 1⟩ Pe.anchor17 _ (anchor17_sh rfl rfl rfl rfl)).mono ?_
  rintro e w1 ⟨V1, rfl, hr1, hb1⟩
  have hb1 : Below w.heap.size w w1 := (by (repeat (first | exact Below.refl _ _ | assumption | (refine Below.setCell ?_ (by first | omega | (simp; done) | (simp; omega)) _) | (refine Below.alloc ?_ (by first | omega | (simp; done) | (simp; omega)) _) | (refine below_drewN ?_ _) | (refine Below.drew ?_))) : Below w.heap.size w _).trans (hb1.mono (by simp; omega))
  have hs1 := hb1.size
  have H1 := Lib.hid (And.intro hr1 hb1)
  clear hr1 hb1
  go_wp2_with fail
  refine (write_any V1 _ w1 H1.out.1 (Pe.brought_ok _) (Pe.order_len _)).mono ?_
  rintro e w3 ⟨A3, n3, c3, rfl, ho3, hb3⟩
  obtain ⟨A3', n3', c3', e3, hr3⟩ := ho3.rd
  injection e3 with q1 q2 q3
  subst q1 q2 q3
  have hb03 : Below w.heap.size w w3 := H1.out.2.trans (hb3.mono hs1)
  have hn3 : n3 ≤ 16777216 := by rw [← hr3.len]; decide +kernel
  have hst := Pe.anchor17_set
  have hsm := anchor17_sum
  have hea := Pe.anchor17_err
  obtain ⟨xs, hxs⟩ : ∃ xs, Pe.write (Pe.brought Pe.anchor17) = xs := ⟨_, rfl⟩
  rw [hxs] at hst hsm hea hr3 ho3
  obtain ⟨ck, hck⟩ : ∃ ck, Pe.opt xs + 64 = ck := ⟨_, rfl⟩
  have hck4 : Pe.opt xs + 68 = ck + 4 := by omega
  rw [hck4, hck, hr3.len] at hst
  obtain ⟨ys, hys⟩ : ∃ ys, xs.set ck 99 = ys := ⟨_, rfl⟩
  rw [hys] at hst
  obtain ⟨ht1, ht2, ht3, ht4, ht5⟩ := hst
  have H3 := Lib.hid (And.intro hr3 (And.intro hb03 (And.intro ho3 (And.intro hea (And.intro hsm (And.intro hck (And.intro hys (And.intro ht1 ht2))))))))
  clear hr3 hb03 hb3 ho3 hea hsm hxs hck hck4 hys ht1 ht2
  go_wp2_with fail
  refine (digest_any A3 n3 c3 xs w3 H3.out.1 hn3).mono ?_
  rintro e w4 ⟨hb4, S, C, er, rfl, hS, her, hSl, hone, _, hok⟩
  obtain rfl : er = 0 := her.symm.trans H3.out.2.2.2.1
  have hnums := (hok rfl).nums
  have H4 := Lib.hid (And.intro hb4 (And.intro hS (And.intro hSl (And.intro hone hnums.2.1))))
  clear hb4 hS her hSl hone hok hnums
  go_wp2_with (first
    | ((with_reducible refine at_store_t 25 ?_); refine wpList_store_b32 rfl _ _ rfl w4.heap.size z32 S rfl H4.out.2.2.1 rfl rfl (dW_b w4) ?_; intro w5 hB5 hg5)
    | ((with_reducible refine at_store_img ?_); refine wpList_store_img rfl _ _ rfl (w4.heap.size + 1) IV.zero C rfl rfl ((dW_i w4).grown hg5 (fun e => by injection e with e; omega)) H4.out.2.2.2.1 ?_; intro w6 hB6 hg6)
    | fail)
  have D6 := digAt (xs := xs) H4.out.1 hg5 hB5 hg6 hB6
  have hC : C.check = ck := H4.out.2.2.2.2.trans H3.out.2.2.2.2.2.1
  obtain ⟨db, hdb⟩ : ∃ g, w4.heap.size = g := ⟨_, rfl⟩
  rw [hdb] at D6 ⊢
  have H6 := Lib.hid (And.intro D6 hC)
  clear hB5 hg5 hB6 hg6 D6 hdb hC
  go_wp2_with fail
  refine (copy_any A3 n3 c3 xs w6 (H3.out.1.up H6.out.1.below) (by omega)).mono ?_
  rintro e w7 ⟨X, nX, cX, rfl, how7, hbw7⟩
  have hl7 : xs.length = n3 := H3.out.1.len
  obtain ⟨gX, capX, e, hlowX, _⟩ := how7.1.form (by omega)
  injection e with ea en ec
  have hnX : nX = n3 := en.trans hl7
  subst ea ec
  clear en
  subst hnX
  have hgX := how7.1.lt gX rfl
  have D7 := H6.out.1.later hbw7
  have k7 : w7.cell? ⟨db + 1, 1, none⟩ = some (.int .i64 (ck : Int)) := by rw [← H6.out.2]; exact D7.img.cell 1
  obtain ⟨zX, _, hzX⟩ := how7.cellAt hl7 (j := ck) (by omega)
  have hfX := how7.frozenAt hl7 ck
  have hstX : OwnB (w7.setCell ⟨gX, ck, none⟩ (.int .u8 99)) w6.heap.size w7.heap.size (.slice (some ⟨gX, 0, none⟩) nX cX) (xs.set ck 99) := how7.stored hl7 ck 99
  have hg := grownBy_set w7 ⟨gX, ck, none⟩ (.int .u8 99)
  have hs67 := hbw7.size
  have hb68 : Below w6.heap.size w6 (w7.setCell ⟨gX, ck, none⟩ (.int .u8 99)) := hbw7.grown hg hs67 (fun k e => by cases e; exact hlowX)
  have hs8 : (w7.setCell ⟨gX, ck, none⟩ (.int .u8 99)).heap.size = w7.heap.size := by simp
  obtain ⟨w8, hw8⟩ : ∃ x, w7.setCell ⟨gX, ck, none⟩ (.int .u8 99) = x := ⟨_, rfl⟩
  rw [hw8] at hstX hb68 hs8
  rw [H3.out.2.2.2.2.2.2.1] at hstX
  obtain ⟨_, _, _, e8, hr8⟩ := hstX.rd
  injection e8 with q1 q2 q3
  subst q1 q2 q3
  have H8 := Lib.hid (And.intro (hr8.more (Nat.le_of_eq hs8.symm)) (And.intro (H6.out.1.later hb68) (And.intro hb68 hw8)))
  have hckn : ck < nX := by omega
  have hckI : (ck : Int) < (nX : Int) := by omega
  have h64 : ¬ ((ck : Int) < 64) := by omega
  have hck4 : ¬ ((nX : Int) < (ck : Int) + 4) := by omega
  have j4 : IntKind.i64.wrap ((ck : Int) + 4) = (ck : Int) + 4 := by rw [IntKind.wrap_i64]; omega
  clear how7 hbw7 D7 hstX hg hs67 hb68 hs8 hr8 hw8 hlowX hgX
  go_wp2_with fail
  rw [H8.out.2.2.2]
  refine (digest_any (some ⟨gX, 0, none⟩) nX cX ys w8 H8.out.1 hn3).mono ?_
  rintro e w9 ⟨hb9, T, D, er, rfl, hT, her, hTl, honeD, _, hok⟩
  obtain rfl : er = 0 := her.symm.trans H3.out.2.2.2.2.2.2.2.1
  have hTS : T = S := by
    rw [← hT, ← H4.out.2.1]
    unfold dig
    rw [H3.out.2.2.2.1, H3.out.2.2.2.2.2.2.2.1, H3.out.2.2.2.2.2.2.2.2]
  subst hTS
  have H9 := Lib.hid (And.intro hb9 (And.intro hTl honeD))
  clear hb9 hT her hTl honeD hok k7 hzX hfX
  go_wp2_with (first
    | ((with_reducible refine at_store_t 25 ?_); refine wpList_store_b32 rfl _ _ rfl w9.heap.size z32 T rfl H9.out.2.1 rfl rfl (dW_b w9) ?_; intro w10 hB10 hg10)
    | ((with_reducible refine at_store_img ?_); refine wpList_store_img rfl _ _ rfl (w9.heap.size + 1) IV.zero D rfl rfl ((dW_i w9).grown hg10 (fun e => by injection e with e; omega)) H9.out.2.2 ?_; intro w11 hB11 hg11)
    | fail)
  have D11 := digAt (xs := ys) H9.out.1 hg10 hB10 hg11 hB11
  obtain ⟨dc, hdc⟩ : ∃ g, w9.heap.size = g := ⟨_, rfl⟩
  rw [hdc] at D11 ⊢
  have hb3 : Below w3.heap.size w3 w11 := H8.out.2.1.below.trans (D11.below.mono H8.out.2.1.below.size)
  have H11 := Lib.hid (And.intro D11 (And.intro hb3 (H8.out.2.1.later D11.below)))
  clear hB10 hg10 hB11 hg11 D11 hdc hb3
  refine (meRanges_any A3 nX c3 xs w11 (H3.out.1.up H11.out.2.1) hn3).mono ?_
  rintro e w12 ⟨hb12, v, rfl, _, hv⟩
  rw [H3.out.2.2.2.1]
  have hO := hv H3.out.2.2.2.1
  obtain ⟨Ar, cr, rfl, _, _, _, _⟩ := hO.shape
  have heq : ∀ W, (Op.equalIn 10000 25 (.agg (T.map u8v).toArray) (.agg (T.map u8v).toArray)).run Tryz.prog W = .ok true W := fun W => by rw [eq_b32 T T H9.out.2.1 H9.out.2.1]; simp
  have hne : ∀ W, (Op.equalIn 10000 25 (.agg (T.map u8v).toArray) (.agg #[.int .u8 0, .int .u8 0, .int .u8 0, .int .u8 0, .int .u8 0, .int .u8 0, .int .u8 0, .int .u8 0, .int .u8 0, .int .u8 0, .int .u8 0, .int .u8 0, .int .u8 0, .int .u8 0, .int .u8 0, .int .u8 0, .int .u8 0, .int .u8 0, .int .u8 0, .int .u8 0, .int .u8 0, .int .u8 0, .int .u8 0, .int .u8 0, .int .u8 0, .int .u8 0, .int .u8 0, .int .u8 0, .int .u8 0, .int .u8 0, .int .u8 0, .int .u8 0])).run Tryz.prog W = .ok false W := fun W => by
    have h := eq_b32 T z32 H9.out.2.1 rfl W
    rw [show decide (T = z32) = false from by
      rw [← H4.out.2.1]
      unfold dig
      rw [if_pos H3.out.2.2.2.1]
      exact decide_eq_false H3.out.2.2.2.2.1] at h
    exact h
  obtain ⟨q, hq⟩ : ∃ q, (Pe.ranges xs).length = q := ⟨_, rfl⟩
  rw [hq] at ht4 ⊢
  have ht4' : (4 : Int) ≤ (q : Int) := by omega
  have H12 := Lib.hid (And.intro (H11.out.2.2.later hb12) (And.intro (H11.out.1.later hb12) (H3.out.2.1.trans (H11.out.2.1.mono H3.out.2.1.size |>.trans (hb12.mono (by have := H3.out.2.1.size; have := H11.out.2.1.size; omega))))))
  clear hv hO hb12 hq
  go_wp2_with (first
    | ((with_reducible refine at_load_t 25 ?_); refine wpList_load_b32_g _ rfl db T H9.out.2.1 rfl H12.out.1.sum (by rfl) ?_)
    | ((with_reducible refine at_load_t 25 ?_); refine wpList_load_b32_g _ rfl dc T H9.out.2.1 rfl H12.out.2.1.sum (by rfl) ?_)
    | fail)
  trace_state
  go_ret
  exact ⟨rfl, H12.out.2.2⟩
end Go.Proofs.YtmpladnglfiejaaGreatDoor
