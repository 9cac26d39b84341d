/- The contract of the reference's PutInt. -/
import Derived.Test.YtadkiildjehdmaaDoorPutInt
namespace Go.Proofs.YtadkiildjehdmaaDoor
open Go.RowKit
set_option maxRecDepth 100000
set_option linter.unusedVariables false
set_option linter.unusedSimpArgs false

set_option maxHeartbeats 1000000 in
theorem refPutInt_any (A : Option Addr) (n c : Nat) (xs : List UInt8) (w : World) (h : Rd w w.heap.size A n c xs) (hn : n ≤ 1099511627) :
    Calls Tryd.prog 15 #[.slice A n c] w (RetOwn (Der.putInt xs) w) := by
  have hl := h.len
  have H := Lib.hid (And.intro h hl)
  clear h hl
  go_enter Tryd.func15, Tryd.ntmps15
  go_wp2
  go_loop [0] (fun v => ∃ A' n' c' ys, v = .slice A' n' c' ∧ Rd w w.heap.size A' n' c' ys ∧ Der.trim xs = Der.trim ys ∧ n' ≤ n) (fun v => match v with | .slice _ m _ => m | _ => 0)
  case atStart => exact ⟨A, n, c, xs, rfl, H.out.1, rfl, Nat.le_refl _⟩
  case round =>
    obtain ⟨A', n', c', ys, rfl, hr, ht, hn'⟩ := hrel
    have hl := hr.len
    have hone : Hid (OwnB (w.alloc (.cells #[.int .u8 0] 5)) w.heap.size (w.heap.size + 1) (.slice (some ⟨w.heap.size, 0, none⟩) 1 1) [0]) := OwnB.lit w [0] [.int .u8 0] 1 rfl rfl (by omega)
    rcases ys with _ | ⟨y, ys⟩
    · obtain rfl : n' = 0 := by simpa using hl.symm
      have hp : Der.putInt xs = [0] := by rw [Der.putInt, ht]; rfl
      have HX := Lib.hid (And.intro hp hr)
      clear hr ht hl hp
      go_wp2_with
        (at_builtin
         refine wpList_app rfl (.tmp 27) (.tmp 28) rfl w.heap.size (w.heap.size + 1) _ [0] rfl hone.out (by simp) _ A' 0 c' [] rfl (HX.out.2.alloc (Nat.le_refl _) _).rds (by simp) ?_
         intro v3 w3 ho3 hg3 hat3 hb3)
      go_ret
      rw [HX.out.1]
      exact retOwn ho3 (Below.trans (by (repeat (first | exact Below.refl _ _ | assumption | (refine Below.setCell ?_ (by first | omega | (simp; done) | (simp; omega)) _) | (refine Below.alloc ?_ (by first | omega | (simp; done) | (simp; omega)) _) | (refine below_drewN ?_ _) | (refine Below.drew ?_)))) hb3)
    · have hpos : 0 < n' := by simp at hl; omega
      have hpos' : (0 : Int) < n' := by omega
      obtain ⟨b, o, rfl, hb, hcell⟩ := hr.at_ hpos
      have hc0 := hcell 0 y rfl
      rw [Nat.add_zero] at hc0
      by_cases hy : y = 0
      · subst hy
        obtain ⟨A1, hr1, _, hcut⟩ := run_cut_lo hr 1 1 rfl (by omega)
        have hc00 : w.cell? ⟨b, o, none⟩ = some (.int .u8 0) := hc0
        have HX := Lib.hid (And.intro hr1 ht)
        clear hr ht hl hcell hc0 hr1 hone
        go_wp2
        go_round
        case rel => exact ⟨A1, _, _, ys, rfl, by simpa using HX.out.1, HX.out.2, by omega⟩
        case measure => simp; omega
      · have hne : ((y.toNat : Int) == 0) = false := by
          have : y.toNat ≠ 0 := fun e => hy (UInt8.toNat_inj.1 e)
          simp; omega
        rw [trim_stop ys hy] at ht
        by_cases h8 : (y.toNat : Int) < 128
        · have hp : Der.putInt xs = y :: ys := by rw [Der.putInt, ht, if_neg (by simp; omega)]
          have HX := Lib.hid (And.intro hp hr)
          clear hr ht hl hcell hy hp hone
          go_wp2_with fail
          refine (copy_any _ n' c' _ w HX.out.2 (by omega)).mono ?_
          rintro e w2 ⟨A2, n2, c2, rfl, ho2, hb2⟩
          go_wp2
          go_ret
          rw [HX.out.1]
          exact retOwn ho2 hb2
        · have hp : Der.putInt xs = 0 :: y :: ys := by rw [Der.putInt, ht, if_pos (.inr (by simp; omega))]
          have HX := Lib.hid (And.intro hp (And.intro hr hl))
          clear hr ht hl hcell hy hp
          go_wp2_with
            (at_builtin
             refine wpList_app rfl (.tmp 27) (.tmp 28) rfl w.heap.size (w.heap.size + 1) _ [0] rfl hone.out (by simp) _ _ n' c' (y :: ys) rfl (HX.out.2.1.alloc (Nat.le_refl _) _).rds (by simp; omega) ?_
             intro v3 w3 ho3 hg3 hat3 hb3)
          go_ret
          rw [HX.out.1]
          exact retOwn ho3 (Below.trans (by (repeat (first | exact Below.refl _ _ | assumption | (refine Below.setCell ?_ (by first | omega | (simp; done) | (simp; omega)) _) | (refine Below.alloc ?_ (by first | omega | (simp; done) | (simp; omega)) _) | (refine below_drewN ?_ _) | (refine Below.drew ?_)))) hb3)
end Go.Proofs.YtadkiildjehdmaaDoor
