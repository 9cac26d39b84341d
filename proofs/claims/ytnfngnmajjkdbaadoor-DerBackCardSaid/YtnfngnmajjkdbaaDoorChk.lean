/- The contract of der.Check. -/
import Derived.Test.YtnfngnmajjkdbaaDoorThr
namespace Go.Proofs.YtnfngnmajjkdbaaDoor
open Go.RowKit
set_option maxRecDepth 100000

def Der.check (xs : List UInt8) : Nat := match Der.elem xs with
  | none => 9
  | some (t, body, _, rest) => if rest = [] then Der.thr 15 t body else 9

set_option maxHeartbeats 400000 in
theorem check_any (A : Option Addr) (n c : Nat) (xs : List UInt8) (w : World) (h : Rd w w.heap.size A n c xs) :
    Calls Tryd.prog 18 #[.slice A n c] w (ThrPost (Der.check xs) w) := by
  obtain ⟨V, hV⟩ : ∃ V, Der.check xs = V := ⟨_, rfl⟩
  rw [hV]
  have HV := Lib.hid hV
  clear hV
  go_enter Tryd.func18, Tryd.ntmps18
  go_wp2_with fail
  refine (element_any A n c xs _ _ h (Nat.le_refl _)).mono ?_
  rintro e w1 ⟨hb1, ⟨hno, rfl⟩ | ⟨t, body, raw, rest, A1, n1, c1, A2, n2, c2, A3, n3, c3, hel, rfl, h1, h2, h3⟩⟩
  · have hsb := hb1.size
    have hv := HV.out
    unfold Der.check at hv
    rw [hno] at hv
    have HN := Lib.hid hv
    clear hno hv
    go_wp2
    go_ret
    exact thr_mk (v := 9) HN.out (by (repeat (first | exact Below.refl _ _ | assumption | (refine Below.setCell ?_ (by first | omega | (simp; done) | (simp; omega)) _) | (refine Below.alloc ?_ (by first | omega | (simp; done) | (simp; omega)) _) | (refine below_drewN ?_ _) | (refine Below.drew ?_))))
  · have hsb := hb1.size
    have hv := HV.out
    unfold Der.check at hv
    rw [hel] at hv
    simp only at hv
    have hn3 := h3.len
    by_cases hr : rest = []
    · rw [if_pos hr] at hv
      subst hr
      obtain rfl : n3 = 0 := by simpa using hn3.symm
      have HN := Lib.hid (And.intro hv (h1.up hb1))
      have hbk := Blk.new w1 30 #[.int .u8 (t.toNat : Int), .slice A1 n1 c1, .slice A2 n2 c2]
      obtain ⟨hc, hf⟩ := hbk.facts
      clear hv hn3 h1 h2 h3 hel hbk
      go_wp2_with fail
      refine (through_any 15 1 rfl t A1 A2 n1 c1 n2 c2 body _ (HN.out.2.up (by (repeat (first | exact Below.refl _ _ | assumption | (refine Below.setCell ?_ (by first | omega | (simp; done) | (simp; omega)) _) | (refine Below.alloc ?_ (by first | omega | (simp; done) | (simp; omega)) _) | (refine below_drewN ?_ _) | (refine Below.drew ?_)))))).mono ?_
      rintro e w2 ⟨rfl, hb2⟩
      have hs := hb1.size
      have hb3 : Below w.heap.size w w2 := Below.trans (by (repeat (first | exact Below.refl _ _ | assumption | (refine Below.setCell ?_ (by first | omega | (simp; done) | (simp; omega)) _) | (refine Below.alloc ?_ (by first | omega | (simp; done) | (simp; omega)) _) | (refine below_drewN ?_ _) | (refine Below.drew ?_)))) (hb2.mono (by simp; omega))
      go_wp2
      go_ret
      exact thr_mk HN.out.1 hb3
    · rw [if_neg hr] at hv
      have hpos : 0 < rest.length := List.length_pos_iff.2 hr
      have h3p : (0 : Int) < n3 := by omega
      have HN := Lib.hid hv
      clear hv hn3 h1 h2 h3 hel hpos
      go_wp2
      go_ret
      exact thr_mk (v := 9) HN.out (by (repeat (first | exact Below.refl _ _ | assumption | (refine Below.setCell ?_ (by first | omega | (simp; done) | (simp; omega)) _) | (refine Below.alloc ?_ (by first | omega | (simp; done) | (simp; omega)) _) | (refine below_drewN ?_ _) | (refine Below.drew ?_))))
end Go.Proofs.YtnfngnmajjkdbaaDoor
