/- A copy with a number laid at a place; where the rows begin. -/
import Derived.Test.YtlfajfmkljnodaaDoorPD
import Derived.Test.YtlfajfmkljnodaaDoorPE
namespace Go.Proofs.YtlfajfmkljnodaaDoor
open Go.RowKit
set_option maxRecDepth 100000
set_option linter.unusedVariables false
set_option linter.unusedSimpArgs false
set_option maxHeartbeats 1000000 in
theorem laid_any (A : Option Addr) (n c p x k : Nat) (q y : Int) (xs : List UInt8) (w : World) (h : Rd w w.heap.size A n c xs) (hn : n ≤ 1099511627776) (hq : q = (p : Int)) (hy : y = (x : Int)) (hp : p + k ≤ n) (hx : x < 18446744073709551616) (hk : Pe.Size k) :
    Calls Tryd.prog 24 #[.slice A n c, .int .i64 q, .int .u64 y, .int .i64 (k : Int)] w (RetOwn (Pe.putAt xs p x k) w) := by
  subst hq hy
  have hl := h.len
  have hk4 : k ≤ 4 := by rcases hk with rfl | rfl | rfl <;> omega
  have hk1 : 1 ≤ k := by rcases hk with rfl | rfl | rfl <;> omega
  have hpn := fun W => putn_any x k W hx hk
  have hcp := copy_any A n c xs w h hn
  have H := Lib.hid (And.intro hcp (And.intro hpn hl))
  clear h hpn hk hcp
  go_enter Tryd.func24, Tryd.ntmps24
  go_wp2_with fail
  refine H.out.1.mono ?_
  rintro e w1 ⟨A0, n0, c0, rfl, ho0, hb0⟩
  obtain ⟨g, cap, e, _, _⟩ := ho0.1.form (by omega)
  injection e with ea en ec
  subst ea en ec
  rw [hl] at ho0 ⊢
  have hg := ho0.1.lt g rfl
  have H0 := Lib.hid (And.intro ho0 hb0)
  clear ho0 hb0
  go_wp2_with fail
  refine (H.out.2.1 w1).mono ?_
  rintro e w2 ⟨A1, n1, c1, rfl, ho1, hb1⟩
  obtain ⟨_, _, _, e1, hr1⟩ := ho1.rd
  injection e1 with e11 e12 e13
  subst e11 e12 e13
  have hn1 : k = n1 := by have := hr1.len; rw [Pe.leN_len] at this; exact this
  subst hn1
  obtain ⟨g1, cap1, e, _, _⟩ := ho1.1.form (by rw [Pe.leN_len]; omega)
  injection e with ea en ec
  subst ea ec
  clear en
  have hg1 := ho1.1.lt g1 rfl
  have hs1 := hb1.size
  have H1 := Lib.hid (And.intro ho1 hb1)
  have h1 := H0.out.1.below hb1 (Nat.le_refl _)
  have h10 : OwnB w2 w.heap.size w1.heap.size (.slice (some ⟨g, 0, none⟩) n c0) (Pe.putTo xs p (Pe.leN k x) 0) := by rw [Pe.putTo_zero]; exact h1
  have H2 := Lib.hid h10
  clear ho1 hb1 hr1 h1 h10
  go_wp2_with fail
  go_loopw [11] (fun i wr => ∃ j : Nat, j ≤ k ∧ i = .int .i64 (j : Int) ∧ OwnB wr w.heap.size w1.heap.size (.slice (some ⟨g, 0, none⟩) n c0) (Pe.putTo xs p (Pe.leN k x) j) ∧ w2.grownBy wr (some g)) (fun i _ => k - (intOf i).toNat)
  case atStart => exact ⟨0, Nat.zero_le _, rfl, H2.out, ⟨rfl, rfl, rfl, Nat.le_refl _, fun _ _ _ => rfl⟩⟩
  case round =>
    obtain ⟨j, hj, rfl, ho, hgr⟩ := hrel
    by_cases hlt : j < k
    · have hlt' : (j : Int) < k := by omega
      have hlen := Pe.putTo_len xs p (Pe.leN k x) j (by have := H.out.2.2; omega) (by rw [Pe.leN_len]; omega)
      obtain ⟨u, hu, hcu⟩ := (H1.out.1.keep (w' := wr) fun k1 h3 h4 => hgr.block k1 h4 (fun e => by injection e with e; omega)).cellAt (Pe.leN_len k x) hlt
      obtain ⟨z, hz, hcz⟩ := ho.cellAt (hlen.trans H.out.2.2) (j := p + j) (by omega)
      have hfz := ho.frozenAt (hlen.trans H.out.2.2) (p + j)
      have hset := ho.stored (hlen.trans H.out.2.2) (p + j) u
      rw [Pe.putTo_set xs p _ j u (by have := H.out.2.2; omega) hu] at hset
      have hpj : ((p : Int) + (j : Int)).toNat = p + j := by omega
      have hpn' : (p : Int) + j < n := by omega
      have hp0 : (0 : Int) ≤ (p : Int) + j := by omega
      have hp00 : (0 : Int) ≤ (p : Int) := by omega
      have HS := Lib.hid (And.intro hset hgr)
      clear ho hset hgr hlen hu hz
      go_wp2_with fail
      go_roundw
      case rel => exact ⟨j + 1, by omega, by go_num, HS.out.1, grownBy_store HS.out.2 _ _⟩
      case measure => simp [intOf]; omega
    · obtain rfl : j = k := by omega
      have hge : ¬ (j : Int) < j := by omega
      have HS := Lib.hid (And.intro ho hgr)
      clear ho hgr
      go_wp2
      go_ret
      have h3 := HS.out.1
      unfold Pe.putTo at h3
      rw [show (Pe.leN j x).take j = Pe.leN j x from List.take_of_length_le (by rw [Pe.leN_len]; exact Nat.le_refl _)] at h3
      have h4 : Below w.heap.size w wr := (H0.out.2.trans (H1.out.2.mono H0.out.2.size)).grown HS.out.2 (by have := H0.out.2.size; omega) (fun k e => by injection e with e; omega)
      exact retOwn (h3.mono (Nat.le_refl _) (by have := h4.size; have := HS.out.2.size; omega)) h4
/-- A guarded load of a whole image. -/
theorem wpList_load_img_g {ops : Array Oper} {rest : List Oper} {op : Oper} {a : Act} {w : World} {Q : Exit → Act → World → Prop} (x : Operand) (ho : op.op = .load 28 x)
    (g : Nat) (C : IV) (hx : a.eval x = .pointer (some ⟨g, 0, none⟩)) (hB : Bi w g C) (hw : Region.wanted op (yielded ops a.tmps) = true) (h : wpList Tryd.prog ops Q rest (a.put op.dst C.val) w) : wpList Tryd.prog ops Q (op :: rest) a w := by
  refine wpList_step fun K hK => ?_
  rw [if_pos hw]
  unfold Oper.wp execOp
  simp only [ho, hx, Instr.loadAt, Instr.sureAddr, Sem.run_bind, Sem.run_pure, Result.andThen_ok, load_img hB]
  exact hK _ _ h
theorem rows_of (C : IV) (w : World) (h : 32 ≤ C.dir) (hd : C.dir ≤ 1099511627776) :
    Calls Tryd.prog 22 #[C.val] w fun e w' => e = .returned (.int .i64 ((C.dir + 96 : Nat) : Int)) ∧ Below w.heap.size w w' := by
  have hX : Blk (w.alloc (.cells C.cells 28)) w.heap.size 28 C.cells := Blk.new _ _ _
  have hb : Below w.heap.size w (w.alloc (.cells C.cells 28)) := by (repeat (first | exact Below.refl _ _ | assumption | (refine Below.setCell ?_ (by first | omega | (simp; done) | (simp; omega)) _) | (refine Below.alloc ?_ (by first | omega | (simp; done) | (simp; omega)) _) | (refine below_drewN ?_ _) | (refine Below.drew ?_)))
  have i2 : (w.alloc (.cells C.cells 28)).cell? ⟨w.heap.size, 2, none⟩ = some (.int .i64 (C.dir : Int)) := hX.cell 2
  obtain ⟨W, hW⟩ : ∃ W, w.alloc (.cells C.cells 28) = W := ⟨_, rfl⟩
  rw [hW] at hb i2
  have H := Lib.hid (And.intro hb hW)
  clear hX hb hW
  obtain ⟨pl, ck, dr, hd', v4, tb, ln, v7⟩ := C
  unfold IV.val IV.cells
  dsimp only at h hd i2 ⊢
  go_enter Tryd.func22, Tryd.ntmps22
  go_upto_region 1 with fail
  have eW := H.out.2
  unfold IV.cells at eW
  dsimp only at eW
  rw [eW]
  clear eW
  go_wp2_with fail
  go_ret
  exact ⟨by rw [show (dr : Int) - 32 + 128 = ((dr + 96 : Nat) : Int) from by omega]; rfl, H.out.1⟩
end Go.Proofs.YtlfajfmkljnodaaDoor
