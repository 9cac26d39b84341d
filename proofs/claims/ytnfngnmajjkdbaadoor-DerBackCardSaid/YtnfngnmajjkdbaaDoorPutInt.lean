/- The contracts of bytes.TrimLeft of noughts, of der.PutInt, of the reference's PutInt. -/
import Derived.Test.YtnfngnmajjkdbaaDoorBase
import Derived.Test.YtnfngnmajjkdbaaDoorDer8
import Derived.Test.YtnfngnmajjkdbaaDoorTrim
import Derived.Test.YtnfngnmajjkdbaaDoorAll2
namespace Go.Proofs.YtnfngnmajjkdbaaDoor
open Go.RowKit
set_option maxRecDepth 100000
set_option linter.unusedVariables false
set_option linter.unusedSimpArgs false

/-- A slice of what came in. -/
def TrimPost (B : Nat) (xs : List UInt8) (w : World) (e : Ending) (w' : World) : Prop := ∃ A n c, e = .returned (.slice A n c) ∧ Rd w B A n c (Der.trim xs) ∧ w' = w

set_option maxHeartbeats 400000 in
theorem trimByte_any (A : Option Addr) (n c : Nat) (xs : List UInt8) (B : Nat) (w : World) (h : Rd w B A n c xs) :
    Calls Tryd.prog 33 #[.slice A n c, .int .u8 0] w (TrimPost B xs w) := by
  have H := Lib.hid h
  clear h
  go_enter Tryd.func33, Tryd.ntmps33
  go_wp2
  go_loop [0] (fun v => ∃ A' n' c' ys, v = .slice A' n' c' ∧ Rd w B A' n' c' ys ∧ Der.trim xs = Der.trim ys) (fun v => match v with | .slice _ m _ => m | _ => 0)
  case atStart => exact ⟨A, n, c, xs, rfl, H.out, rfl⟩
  case round =>
    obtain ⟨A', n', c', ys, rfl, hr, ht⟩ := hrel
    have hl := hr.len
    rcases ys with _ | ⟨y, ys⟩
    · obtain rfl : n' = 0 := by simpa using hl.symm
      have HX := Lib.hid ht
      clear hr ht hl
      go_wp2
      go_ret
      exact ⟨none, 0, 0, rfl, by rw [HX.out]; exact Rd.none_, rfl⟩
    · have hpos : 0 < n' := by simp at hl; omega
      have hpos' : (0 : Int) < n' := by omega
      obtain ⟨b, o, rfl, hb, hcell⟩ := hr.at_ hpos
      have hc0 := hcell 0 y rfl
      rw [Nat.add_zero] at hc0
      by_cases hy : y = 0
      · subst hy
        obtain ⟨A1, hr1, _, hcut⟩ := run_cut_lo hr 1 1 rfl (by omega)
        have hc00 : w.cell? ⟨b, o, none⟩ = some (.int .u8 0) := hc0
        have HX := Lib.hid (And.intro hr1 ht)
        clear hr ht hl hcell hc0 hr1
        go_wp2
        go_round
        case rel => exact ⟨A1, _, _, ys, rfl, by simpa using HX.out.1, HX.out.2⟩
        case measure => simp; omega
      · have hne : ((y.toNat : Int) == 0) = false := by
          have : y.toNat ≠ 0 := fun e => hy (UInt8.toNat_inj.1 e)
          simp; omega
        have hn0 : ((n' : Int) == 0) = false := by simp; omega
        rw [trim_stop ys hy] at ht
        have HX := Lib.hid (And.intro hr ht)
        clear hr ht hl hcell hy
        go_wp2
        go_ret
        exact ⟨_, _, _, rfl, by rw [HX.out.2]; exact HX.out.1, rfl⟩

theorem trimLeft_any (A : Option Addr) (n c : Nat) (xs : List UInt8) (B : Nat) (w : World) (h : Rd w B A n c xs) :
    Calls Tryd.prog 24 #[.slice A n c, .string ⟨#[0]⟩] w (TrimPost B xs w) := by
  have hl := h.len
  have H := Lib.hid (And.intro h hl)
  clear h hl
  by_cases h0 : n = 0
  · subst h0
    go_enter Tryd.func24, Tryd.ntmps24
    go_wp2
    go_ret
    have : xs = [] := List.eq_nil_of_length_eq_zero H.out.2
    exact ⟨none, 0, 0, rfl, by rw [this]; exact Rd.none_, rfl⟩
  · have hne : ((n : Int) == 0) = false := by simp; omega
    go_enter Tryd.func24, Tryd.ntmps24
    go_wp2_with fail
    refine (trimByte_any A n c xs B w H.out.1).mono ?_
    rintro e w' ⟨A1, n1, c1, rfl, hr, rfl⟩
    go_wp2
    go_ret
    exact ⟨_, _, _, rfl, hr, rfl⟩

set_option maxHeartbeats 400000 in
theorem putInt_any (A : Option Addr) (n c : Nat) (xs : List UInt8) (w : World) (h : Rd w w.heap.size A n c xs) (hn : n ≤ 1099511627) :
    Calls Tryd.prog 11 #[.slice A n c] w (RetOwn (Der.putInt xs) w) := by
  have hl := h.len
  have htl := trim_len xs
  go_enter Tryd.func11, Tryd.ntmps11
  go_wp2_with fail
  refine (trimLeft_any A n c xs w.heap.size w h).mono ?_
  rintro e w ⟨A1, n1, c1, rfl, hr, rfl⟩
  obtain ⟨ys, hys⟩ : ∃ ys, Der.trim xs = ys := ⟨_, rfl⟩
  have hp : Der.putInt xs = if ys = [] ∨ 128 ≤ (ys.headD 0).toNat then 0 :: ys else ys := by rw [Der.putInt, hys]
  rw [hys] at hr htl
  have hn1 : n1 ≤ 1099511627 := by have := hr.len; omega
  have hrl := hr.len
  have hj : ∀ W, W = w.alloc (.cells #[.int .u8 0] 5) → RdL (W.alloc (.cells #[.slice (some ⟨w.heap.size, 0, none⟩) 1 1, .slice A1 n1 c1] 22)) (W.alloc (.cells #[.slice (some ⟨w.heap.size, 0, none⟩) 1 1, .slice A1 n1 c1] 22)).heap.size (some ⟨w.heap.size + 1, 0, none⟩) 2 2 [(.slice (some ⟨w.heap.size, 0, none⟩) 1 1, [0]), (.slice A1 n1 c1, ys)] := by
    rintro W rfl
    refine RdL.lit (w.alloc (.cells #[.int .u8 0] 5)) 22 [(.slice (some ⟨w.heap.size, 0, none⟩) 1 1, [0]), (.slice A1 n1 c1, ys)] [.slice (some ⟨w.heap.size, 0, none⟩) 1 1, .slice A1 n1 c1] _ 2 (by simp) rfl rfl (by omega) (fun v zs hm => ?_)
    simp only [List.mem_cons, Prod.mk.injEq, List.not_mem_nil, or_false] at hm
    rcases hm with ⟨rfl, rfl⟩ | ⟨rfl, rfl⟩
    · exact RdV.mk (Rd.lit w 5 [0] [.int .u8 0] _ 1 rfl rfl rfl (by omega))
    · exact RdV.mk ((hr.alloc (Nat.le_refl _) _).more (by simp))
  have hcat : cat [(Value.slice (some ⟨w.heap.size, 0, none⟩) 1 1, [0]), (.slice A1 n1 c1, ys)] = 0 :: ys := by simp [cat]
  have HJ := Lib.hid (And.intro (hj _ rfl) (And.intro hcat hp))
  by_cases h0 : n1 = 0
  · subst h0
    have hy0 : ys = [] := List.eq_nil_of_length_eq_zero hrl
    clear h hl htl hr hys hp hj hcat hrl
    go_wp2_with fail
    refine (join_any _ 2 2 _ _ HJ.out.1 (by omega) (by rw [HJ.out.2.1, hy0]; simp)).mono ?_
    rw [HJ.out.2.1]
    rintro e w2 ⟨A2, n2, c2, rfl, ho2, hb2⟩
    have hb : Below w.heap.size w w2 := Below.trans (by (repeat (first | exact Below.refl _ _ | assumption | (refine Below.setCell ?_ (by first | omega | (simp; done) | (simp; omega)) _) | (refine Below.alloc ?_ (by first | omega | (simp; done) | (simp; omega)) _) | (refine below_drewN ?_ _) | (refine Below.drew ?_)))) (hb2.mono (by first | omega | (simp; done) | (simp; omega)))
    go_wp2
    go_ret
    rw [HJ.out.2.2, if_pos (.inl hy0)]
    exact retOwn (ho2.mono (by simp; omega) (Nat.le_refl _)) hb
  · have hne : ((n1 : Int) == 0) = false := by simp; omega
    have hpos : (0 : Int) < n1 := by omega
    have hpos2 : 0 < n1 := by omega
    rcases ys with _ | ⟨y, ys⟩
    · simp at hrl; omega
    obtain ⟨b, o, rfl, hb, hcell⟩ := hr.at_ (by omega)
    have hc0 := hcell 0 y rfl
    rw [Nat.add_zero] at hc0
    by_cases hy : (128 : Int) ≤ y.toNat
    · have hyl : (y :: ys).length ≤ 1099511627 := by omega
      have HL := Lib.hid hyl
      clear h hl htl hr hys hp hj hcat hrl hcell hyl
      go_wp2_with fail
      refine (join_any _ 2 2 _ _ HJ.out.1 (by omega) (by rw [HJ.out.2.1]; have := HL.out; simp at this ⊢; omega)).mono ?_
      rw [HJ.out.2.1]
      rintro e w2 ⟨A2, n2, c2, rfl, ho2, hb2⟩
      have hb : Below w.heap.size w w2 := Below.trans (by (repeat (first | exact Below.refl _ _ | assumption | (refine Below.setCell ?_ (by first | omega | (simp; done) | (simp; omega)) _) | (refine Below.alloc ?_ (by first | omega | (simp; done) | (simp; omega)) _) | (refine below_drewN ?_ _) | (refine Below.drew ?_)))) (hb2.mono (by first | omega | (simp; done) | (simp; omega)))
      go_wp2
      go_ret
      rw [HJ.out.2.2, if_pos (.inr (by simp; omega))]
      exact retOwn (ho2.mono (by simp; omega) (Nat.le_refl _)) hb
    · have HR := Lib.hid hr
      clear h hl htl hr hys hp hj hcat hrl hcell
      go_wp2_with fail
      refine (clone_any _ n1 c1 _ w HR.out (by omega)).mono ?_
      rintro e w2 ⟨A2, n2, c2, rfl, ho2, hb2⟩
      go_wp2
      go_ret
      rw [HJ.out.2.2, if_neg (by simp; omega)]
      exact retOwn ho2 hb2
end Go.Proofs.YtnfngnmajjkdbaaDoor
