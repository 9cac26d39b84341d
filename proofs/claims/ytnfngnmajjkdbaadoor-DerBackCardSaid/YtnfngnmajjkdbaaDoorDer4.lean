/- The contract of der.Parse. -/
import Derived.Test.YtnfngnmajjkdbaaDoorProg
import Derived.Test.YtnfngnmajjkdbaaDoorMem
import Derived.Test.YtnfngnmajjkdbaaDoorDerSpec
import Derived.Test.YtnfngnmajjkdbaaDoorNum
import Derived.Test.YtnfngnmajjkdbaaDoorBase
import Derived.Test.YtnfngnmajjkdbaaDoorDer1
import Derived.Test.YtnfngnmajjkdbaaDoorDer2
import Derived.Test.YtnfngnmajjkdbaaDoorDer3
import Derived.BigQuiet
import Derived.BigRegion
import Derived.StillTailTactics
import Derived.Deep.QuietTactic
import Derived.Deep.RegionHeld3
namespace Go.Proofs.YtnfngnmajjkdbaaDoor
open Go.RowKit
set_option maxRecDepth 100000

/-- What Parse tells: the element and the rest, each row in new memory; or the error. -/
def ParsePost (er : Int) (xs : List UInt8) (w : World) (e : Ending) (w' : World) : Prop :=
  Below w.heap.size w w' ∧
  ((Der.elem xs = none ∧ e = .returned (.tuple #[.agg #[.int .u8 0, .slice none 0 0, .slice none 0 0], .slice none 0 0, .int .i64 er])) ∨
   ∃ t body raw rest A1 n1 c1 A2 n2 c2 A3 n3 c3, Der.elem xs = some (t, body, raw, rest) ∧
     e = .returned (.tuple #[.agg #[.int .u8 (t.toNat : Int), .slice A1 n1 c1, .slice A2 n2 c2], .slice A3 n3 c3, .int .i64 0]) ∧
     Owns w' w.heap.size w'.heap.size [(.slice A1 n1 c1, body), (.slice A2 n2 c2, raw), (.slice A3 n3 c3, rest)])

theorem elem_len {xs : List UInt8} {t : UInt8} {body raw rest : List UInt8} (h : Der.elem xs = some (t, body, raw, rest)) : body.length ≤ xs.length ∧ raw.length ≤ xs.length ∧ rest.length ≤ xs.length ∧ raw ++ rest = xs := by
  unfold Der.elem at h
  split at h
  · split at h
    · simp only [Option.some.injEq, Prod.mk.injEq] at h
      obtain ⟨_, rfl, rfl, rfl⟩ := h
      refine ⟨by simp; omega, by simp; omega, by simp, List.take_append_drop _ _⟩
    · cases h
  · cases h

set_option maxHeartbeats 400000 in
theorem parse_any (A : Option Addr) (n c : Nat) (xs : List UInt8) (w : World) (h : Rd w w.heap.size A n c xs) (hn : n ≤ 1099511627776) :
    Calls Tryd.prog 7 #[.slice A n c] w (ParsePost 9 xs w) := by
  have hl := h.len
  have hb0 := Blk.new w 30 #[.int .u8 0, .slice none 0 0, .slice none 0 0]
  go_enter Tryd.func7, Tryd.ntmps7
  go_wp2_with fail
  refine (element_any A n c xs _ _ (h.up (by (repeat (first | exact Below.refl _ _ | assumption | (refine Below.setCell ?_ (by first | omega | (simp; done) | (simp; omega)) _) | (refine Below.alloc ?_ (by first | omega | (simp; done) | (simp; omega)) _) | (refine below_drewN ?_ _) | (refine Below.drew ?_))))) (Nat.le_refl _)).mono ?_
  rintro e w1 ⟨hb1, ⟨hno, rfl⟩ | ⟨t, body, raw, rest, A1, n1, c1, A2, n2, c2, A3, n3, c3, hel, rfl, h1, h2, h3⟩⟩
  all_goals
    have hbw1 : Below w.heap.size w w1 := Below.trans (by (repeat (first | exact Below.refl _ _ | assumption | (refine Below.setCell ?_ (by first | omega | (simp; done) | (simp; omega)) _) | (refine Below.alloc ?_ (by first | omega | (simp; done) | (simp; omega)) _) | (refine below_drewN ?_ _) | (refine Below.drew ?_)))) (hb1.mono (by simp))
    obtain ⟨hc1, hf1, hB1, hz1⟩ := hb0.box hb1 (by simp)
  · have HNO := Lib.hid hno
    clear hno hl
    go_wp2
    refine bodyPost_ret (v := .tuple #[.agg #[.int .u8 0, .slice none 0 0, .slice none 0 0], .slice none 0 0, .int .i64 9]) (by simp [results, Tryd.results7, go_sem, hc1, hz1]) rfl ⟨by (repeat (first | exact Below.refl _ _ | assumption | (refine Below.setCell ?_ (by first | omega | (simp; done) | (simp; omega)) _) | (refine Below.alloc ?_ (by first | omega | (simp; done) | (simp; omega)) _) | (refine below_drewN ?_ _) | (refine Below.drew ?_))), .inl ⟨HNO.out, rfl⟩⟩
  · have hll := elem_len hel
    have HEL := Lib.hid hel
    replace h1 := h1.up hb1
    replace h2 := h2.up hb1
    replace h3 := h3.up hb1
    have hn1 : n1 ≤ 1099511627776 := by have := h1.len; omega
    have hn2 : n2 ≤ 1099511627776 := by have := h2.len; omega
    have hn3 : n3 ≤ 1099511627776 := by have := h3.len; omega
    clear hel hl hll
    go_wp2_with fail
    refine (own_any t A1 A2 n1 c1 n2 c2 body raw _ (h1.up (by (repeat (first | exact Below.refl _ _ | assumption | (refine Below.setCell ?_ (by first | omega | (simp; done) | (simp; omega)) _) | (refine Below.alloc ?_ (by first | omega | (simp; done) | (simp; omega)) _) | (refine below_drewN ?_ _) | (refine Below.drew ?_))))) (h2.up (by (repeat (first | exact Below.refl _ _ | assumption | (refine Below.setCell ?_ (by first | omega | (simp; done) | (simp; omega)) _) | (refine Below.alloc ?_ (by first | omega | (simp; done) | (simp; omega)) _) | (refine below_drewN ?_ _) | (refine Below.drew ?_))))) hn1 hn2).mono ?_
    rintro e w2 ⟨A4, n4, c4, A5, n5, c5, rfl, ho, hb2⟩
    have hs1 := hb2.size
    simp at hs1
    have hbw2 : Below w.heap.size w w2 := Below.trans (by (repeat (first | exact Below.refl _ _ | assumption | (refine Below.setCell ?_ (by first | omega | (simp; done) | (simp; omega)) _) | (refine Below.alloc ?_ (by first | omega | (simp; done) | (simp; omega)) _) | (refine below_drewN ?_ _) | (refine Below.drew ?_)))) (hb2.mono (by simp; omega))
    have hbk2 : Below w1.heap.size w1 w2 := Below.trans (by (repeat (first | exact Below.refl _ _ | assumption | (refine Below.setCell ?_ (by first | omega | (simp; done) | (simp; omega)) _) | (refine Below.alloc ?_ (by first | omega | (simp; done) | (simp; omega)) _) | (refine below_drewN ?_ _) | (refine Below.drew ?_)))) (hb2.mono (by simp))
    replace h3 := h3.up hbk2
    replace ho := ho.mono (lo' := w1.heap.size) (hi' := w2.heap.size) (by simp) (Nat.le_refl _)
    obtain ⟨hc2, hf2, hB2, hz2⟩ := hB1.box hbk2 hz1
    clear hc1 hf1
    go_wp2_with fail
    refine (clone_any A3 n3 c3 rest _ h3 hn3).mono ?_
    rintro e w3 ⟨A6, n6, c6, rfl, ho3, hb3⟩
    have hs2 := hb3.size
    have hbw3 : Below w.heap.size w w3 := Below.trans hbw2 (hb3.mono (by omega))
    obtain ⟨hc3, hf3, hB3, hz3⟩ := hB2.box hb3 hz2
    clear hc2 hf2
    go_wp2
    refine bodyPost_ret (v := .tuple #[.agg #[.int .u8 (t.toNat : Int), .slice A4 n4 c4, .slice A5 n5 c5], .slice A6 n6 c6, .int .i64 0]) (by simp [results, Tryd.results7, go_sem, hc3]) rfl
      ⟨by (repeat (first | exact Below.refl _ _ | assumption | (refine Below.setCell ?_ (by first | omega | (simp; done) | (simp; omega)) _) | (refine Below.alloc ?_ (by first | omega | (simp; done) | (simp; omega)) _) | (refine below_drewN ?_ _) | (refine Below.drew ?_))), .inr ⟨_, _, _, _, _, _, _, _, _, _, _, _, _, HEL.out, rfl, ?_⟩⟩
    have hall := (ho.below hb3 (Nat.le_refl _)).append (Owns.one ho3 hs2)
    exact ((((hall.setCell (by simp; omega) _).setCell (by simp; omega) _).setCell (by simp; omega) _).mono (by omega) (by simp))
end Go.Proofs.YtnfngnmajjkdbaaDoor
