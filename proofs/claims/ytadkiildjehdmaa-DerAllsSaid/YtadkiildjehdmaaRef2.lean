/- The contract of the reference's Parse. -/
import Derived.Test.YtadkiildjehdmaaProg
import Derived.Test.YtadkiildjehdmaaMem
import Derived.Test.YtadkiildjehdmaaDerSpec
import Derived.Test.YtadkiildjehdmaaNum
import Derived.Test.YtadkiildjehdmaaBase
import Derived.Test.YtadkiildjehdmaaRef1
import Derived.Test.YtadkiildjehdmaaDer4
import Derived.BigQuiet
import Derived.BigRegion
import Derived.Deep.QuietTactic
import Derived.Deep.RegionHeld3
namespace Go.Proofs.Ytadkiildjehdmaa
open Go.RowKit
set_option maxRecDepth 100000

theorem refParse_no {xs : List UInt8} {w w' : World} (h : Der.elem xs = none) (hb : Below w.heap.size w w') :
    ParsePost 9 xs w (.returned (.tuple #[.agg #[.int .u8 0, .slice none 0 0, .slice none 0 0], .slice none 0 0, .int .i64 9])) w' := ⟨hb, .inl ⟨h, rfl⟩⟩

theorem tagBad_iff (xs : List UInt8) : Der.tagBad xs = ((xs.headD 0).toNat % 32 == 31) := rfl

set_option maxHeartbeats 1000000 in
theorem refParse_any (A : Option Addr) (n c : Nat) (xs : List UInt8) (w : World) (h : Rd w w.heap.size A n c xs) (hn : n ≤ 1099511627776) :
    Calls Try.prog 21 #[.slice A n c] w (ParsePost 9 xs w) := by
  have hcap := h.cap
  have hcm := h.capm
  have hl := h.len
  go_enter Try.func21, Try.ntmps21
  go_wp2_with fail
  refine (len_any A n c xs w.heap.size _ (h.alloc (Nat.le_refl _) _)).mono ?_
  rintro e w' ⟨k, f, ok, rfl, ⟨nd, rfl⟩, hyes, hno⟩
  cases ok with
  | false =>
    have hno' : Der.elem xs = none := elem_none (by unfold Der.hdr; rw [hno rfl]; split <;> rfl)
    have HNO := Lib.hid hno'
    clear hyes hno hno' hl
    go_wp2
    exact bodyPost_ret (v := .tuple #[.agg #[.int .u8 0, .slice none 0 0, .slice none 0 0], .slice none 0 0, .int .i64 9]) (by simp [results, Try.results21, go_sem]) rfl (refParse_no HNO.out (by (repeat (first | exact Below.refl _ _ | assumption | (refine Below.setCell ?_ (by first | omega | (simp; done) | (simp; omega)) _) | (refine Below.alloc ?_ (by first | omega | (simp; done) | (simp; omega)) _) | (refine below_drewN ?_ _) | (refine Below.drew ?_)))))
  | true =>
    obtain ⟨n', f', rfl, rfl, hd⟩ := hyes rfl
    clear hno hyes
    obtain ⟨hf2, hf6, hfl, hn32⟩ := Der.lenOf_bd hd
    rw [hl] at hfl
    obtain ⟨b, o, rfl, hbB, hcell⟩ := h.at_ (by omega)
    obtain ⟨x0, hx0⟩ : ∃ x0, xs.headD 0 = x0 := ⟨_, rfl⟩
    have h0 : w.cell? ⟨b, o, none⟩ = some (.int .u8 (x0.toNat : Int)) := by
      have hx : xs[0]? = some (xs.headD 0) := by cases xs with
        | nil => simp at hl; omega
        | cons x r => rfl
      rw [hx0] at hx
      simpa using hcell 0 _ hx
    have hlt0 := x0.toNat_lt
    by_cases ht : x0.toNat % 32 = 31
    · have hno' : Der.elem xs = none := elem_none (by unfold Der.hdr Der.tagBad; rw [hx0, ht]; rfl)
      have HNO := Lib.hid hno'
      have e1 : ((x0.toNat : Int) % 32 == 31) = true := by simp; omega
      have hlen2 : (0 : Int) < n := by omega
      clear hno' hl hx0 ht hd h hcell
      go_wp2
      exact bodyPost_ret (v := .tuple #[.agg #[.int .u8 0, .slice none 0 0, .slice none 0 0], .slice none 0 0, .int .i64 9]) (by simp [results, Try.results21, go_sem]) rfl (refParse_no HNO.out (by (repeat (first | exact Below.refl _ _ | assumption | (refine Below.setCell ?_ (by first | omega | (simp; done) | (simp; omega)) _) | (refine Below.alloc ?_ (by first | omega | (simp; done) | (simp; omega)) _) | (refine below_drewN ?_ _) | (refine Below.drew ?_)))))
    · have hel : Der.elem xs = if n' ≤ n - f' then some (x0, (xs.take (f' + n')).drop f', xs.take (f' + n'), xs.drop (f' + n')) else none := by
        unfold Der.elem Der.hdr Der.tagBad
        rw [hx0, hd, hl, if_neg (by simpa using ht)]
      have HEL := Lib.hid hel
      have e1 : ((x0.toNat : Int) % 32 == 31) = false := by simp; omega
      have hlen2 : (0 : Int) < n := by omega
      clear hel hd hx0 ht hcell
      by_cases hfit : n' ≤ n - f'
      · have hgt : ¬ ((n : Int) - f' < n') := by omega
        obtain ⟨A1, hr1, c1, d1⟩ := run_cut h f' (f' + n') (f' : Int) ((f' : Int) + (n' : Int)) rfl (by omega) (by omega) (by omega)
        obtain ⟨A2, hr2, c2, d2⟩ := run_cut_lo h (f' + n') ((f' : Int) + (n' : Int)) (by omega) (by omega)
        have hr3 := h.upto (f' + n') (by omega)
        simp only [Nat.add_sub_cancel_left] at hr1 c1 d1
        have el := HEL.out
        rw [if_pos hfit] at el
        have HX := Lib.hid el
        have hb0 := Blk.new w 27 #[.int .u8 0, .slice none 0 0, .slice none 0 0]
        have hwr : IntKind.i64.wrap ((f' : Int) + (n' : Int)) = (f' : Int) + (n' : Int) := IntWalk.i64_in _ (by omega)
        have hn0 : 0 < n := by omega
        have hne1 : ¬ b = w.heap.size := by omega
        have hne2 : ¬ w.heap.size = b := by omega
        have hs0 : (0 : Int) ≤ (f' : Int) + (n' : Int) := by omega
        have hs1 : (f' : Int) + (n' : Int) ≤ (c : Int) := by omega
        have hs2 : ((f' : Int) + (n' : Int)).toNat = f' + n' := by omega
        clear hl el HEL
        go_wp2
        go_region_held3 (fun w' => w'.cell? ⟨b, o, none⟩ = some (.int .u8 (x0.toNat : Int))) (go_keep)
          (first
            | (go_at_call 46; ((with_reducible refine (copy_any A1 n' (c - f') _ _ (hr1.up (by (repeat (first | exact Below.refl _ _ | assumption | (refine Below.setCell ?_ (by first | omega | (simp; done) | (simp; omega)) _) | (refine Below.alloc ?_ (by first | omega | (simp; done) | (simp; omega)) _) | (refine below_drewN ?_ _) | (refine Below.drew ?_))))) (by omega)).mono ?_); rintro e w1 ⟨A4, n4, c4, rfl, ho1, hb1⟩); have hbw1 : Below w.heap.size w w1 := Below.trans (by (repeat (first | exact Below.refl _ _ | assumption | (refine Below.setCell ?_ (by first | omega | (simp; done) | (simp; omega)) _) | (refine Below.alloc ?_ (by first | omega | (simp; done) | (simp; omega)) _) | (refine below_drewN ?_ _) | (refine Below.drew ?_)))) (hb1.mono (by simp)); obtain ⟨hc1, hf1, hB1, hz1⟩ := hb0.box (B := w.heap.size + 1) (Below.trans (by (repeat (first | exact Below.refl _ _ | assumption | (refine Below.setCell ?_ (by first | omega | (simp; done) | (simp; omega)) _) | (refine Below.alloc ?_ (by first | omega | (simp; done) | (simp; omega)) _) | (refine below_drewN ?_ _) | (refine Below.drew ?_)))) (hb1.mono (by simp))) (by simp); have hq1 : w1.cell? ⟨b, o, none⟩ = some (.int .u8 (x0.toNat : Int)) := (hbw1.cell (p := ⟨b, o, none⟩) hbB).trans h0)
            | (go_at_call 46; ((with_reducible refine (copy_any (some ⟨b, o, none⟩) (f' + n') c _ _ (hr3.up (by (repeat (first | exact Below.refl _ _ | assumption | (refine Below.setCell ?_ (by first | omega | (simp; done) | (simp; omega)) _) | (refine Below.alloc ?_ (by first | omega | (simp; done) | (simp; omega)) _) | (refine below_drewN ?_ _) | (refine Below.drew ?_))))) (by omega)).mono ?_); rintro e w2 ⟨A5, n5, c5, rfl, ho2, hb2⟩); have hbw2 : Below w.heap.size w w2 := Below.trans (by (repeat (first | exact Below.refl _ _ | assumption | (refine Below.setCell ?_ (by first | omega | (simp; done) | (simp; omega)) _) | (refine Below.alloc ?_ (by first | omega | (simp; done) | (simp; omega)) _) | (refine below_drewN ?_ _) | (refine Below.drew ?_)))) (hb2.mono (by omega)); obtain ⟨hc2, hf2, hB2, hz2⟩ := hB1.box hb2 hz1; have hq2 : w2.cell? ⟨b, o, none⟩ = some (.int .u8 (x0.toNat : Int)) := (hbw2.cell (p := ⟨b, o, none⟩) hbB).trans h0)
            | (go_at_call 46; ((with_reducible refine (copy_any A2 (n - (f' + n')) (c - (f' + n')) _ _ (hr2.up (by (repeat (first | exact Below.refl _ _ | assumption | (refine Below.setCell ?_ (by first | omega | (simp; done) | (simp; omega)) _) | (refine Below.alloc ?_ (by first | omega | (simp; done) | (simp; omega)) _) | (refine below_drewN ?_ _) | (refine Below.drew ?_))))) (by omega)).mono ?_); rintro e w3 ⟨A6, n6, c6, rfl, ho3, hb3⟩); have hbw3 : Below w.heap.size w w3 := Below.trans (by (repeat (first | exact Below.refl _ _ | assumption | (refine Below.setCell ?_ (by first | omega | (simp; done) | (simp; omega)) _) | (refine Below.alloc ?_ (by first | omega | (simp; done) | (simp; omega)) _) | (refine below_drewN ?_ _) | (refine Below.drew ?_)))) (hb3.mono (by first | omega | (simp; omega))); obtain ⟨hc3, hf3, hB3, hz3⟩ := hB2.box hb3 (by first | exact hz2 | simpa using hz2); have hq3 : w3.cell? ⟨b, o, none⟩ = some (.int .u8 (x0.toNat : Int)) := (hbw3.cell (p := ⟨b, o, none⟩) hbB).trans h0))
        all_goals go_wp2
        have hall := ((Owns.one ho1 hb1.size).below hb2 (Nat.le_refl _)).append (Owns.one ho2 hb2.size)
        have hall2 := (hall.below hb3 (Nat.le_refl _)).append (Owns.one ho3 hb3.size)
        refine bodyPost_ret (v := .tuple #[.agg #[.int .u8 (x0.toNat : Int), .slice A4 n4 c4, .slice A5 n5 c5], .slice A6 n6 c6, .int .i64 0]) (by simp [results, Try.results21, go_sem, hc3]) rfl
          ⟨by (repeat (first | exact Below.refl _ _ | assumption | (refine Below.setCell ?_ (by first | omega | (simp; done) | (simp; omega)) _) | (refine Below.alloc ?_ (by first | omega | (simp; done) | (simp; omega)) _) | (refine below_drewN ?_ _) | (refine Below.drew ?_))), .inr ⟨_, _, _, _, _, _, _, _, _, _, _, _, _, HX.out, rfl, ?_⟩⟩
        exact ((((hall2.setCell (by simp) _).setCell (by simp) _).setCell (by simp) _).mono (by simp) (by simp))
      · have hgt : ((n : Int) - f' < n') := by omega
        have hno := HEL.out
        rw [if_neg hfit] at hno
        have HNO := Lib.hid hno
        clear hno hl h
        go_wp2
        exact bodyPost_ret (v := .tuple #[.agg #[.int .u8 0, .slice none 0 0, .slice none 0 0], .slice none 0 0, .int .i64 9]) (by simp [results, Try.results21, go_sem]) rfl (refParse_no HNO.out (by (repeat (first | exact Below.refl _ _ | assumption | (refine Below.setCell ?_ (by first | omega | (simp; done) | (simp; omega)) _) | (refine Below.alloc ?_ (by first | omega | (simp; done) | (simp; omega)) _) | (refine below_drewN ?_ _) | (refine Below.drew ?_)))))
end Go.Proofs.Ytadkiildjehdmaa
