/- The contracts of der.own, der.Parse. -/
import Derived.Test.YtnfngnmajjkdbaaDoorProg
import Derived.Test.YtnfngnmajjkdbaaDoorMem
import Derived.Test.YtnfngnmajjkdbaaDoorDerSpec
import Derived.Test.YtnfngnmajjkdbaaDoorNum
import Derived.Test.YtnfngnmajjkdbaaDoorBase
import Derived.Test.YtnfngnmajjkdbaaDoorDer1
import Derived.Test.YtnfngnmajjkdbaaDoorDer2
import Derived.BigQuiet
import Derived.BigRegion
import Derived.StillTailTactics
import Derived.Deep.QuietTactic
import Derived.Deep.RegionHeld3
namespace Go.Proofs.YtnfngnmajjkdbaaDoor
open Go.RowKit
set_option maxRecDepth 100000

/-- An element in memory of its own: its body, then its raw bytes, each in a row of its own. -/
def OwnPost (t : UInt8) (body raw : List UInt8) (w : World) (e : Ending) (w' : World) : Prop :=
  ∃ A1 n1 c1 A2 n2 c2, e = .returned (.agg #[.int .u8 (t.toNat : Int), .slice A1 n1 c1, .slice A2 n2 c2]) ∧ Owns w' w.heap.size w'.heap.size [(.slice A1 n1 c1, body), (.slice A2 n2 c2, raw)] ∧ Below w.heap.size w w'

set_option maxHeartbeats 400000 in
theorem own_any (t : UInt8) (A1 A2 : Option Addr) (n1 c1 n2 c2 : Nat) (body raw : List UInt8) (w : World) (h1 : Rd w w.heap.size A1 n1 c1 body) (h2 : Rd w w.heap.size A2 n2 c2 raw)
    (hn1 : n1 ≤ 1099511627776) (hn2 : n2 ≤ 1099511627776) :
    Calls Tryd.prog 21 #[.agg #[.int .u8 (t.toNat : Int), .slice A1 n1 c1, .slice A2 n2 c2]] w (OwnPost t body raw w) := by
  go_enter Tryd.func21, Tryd.ntmps21
  go_wp2
  go_region_held3 (fun w' => w'.cell? ⟨w.heap.size, 0, none⟩ = some (.int .u8 (t.toNat : Int)) ∧ w'.cell? ⟨w.heap.size, 1, none⟩ = some (.slice A1 n1 c1) ∧ w'.cell? ⟨w.heap.size, 2, none⟩ = some (.slice A2 n2 c2)) (go_keep)
    (first
      | (go_at_call 22; ((with_reducible refine (clone_any A1 n1 c1 body _ (h1.up (by (repeat (first | exact Below.refl _ _ | assumption | (refine Below.setCell ?_ (by first | omega | (simp; done) | (simp; omega)) _) | (refine Below.alloc ?_ (by first | omega | (simp; done) | (simp; omega)) _) | (refine below_drewN ?_ _) | (refine Below.drew ?_))))) (by omega)).mono ?_); rintro e w1 ⟨A3, n3, c3, rfl, hv1, hb1⟩); have hbw1 : Below w.heap.size w w1 := Below.trans (by (repeat (first | exact Below.refl _ _ | assumption | (refine Below.setCell ?_ (by first | omega | (simp; done) | (simp; omega)) _) | (refine Below.alloc ?_ (by first | omega | (simp; done) | (simp; omega)) _) | (refine below_drewN ?_ _) | (refine Below.drew ?_)))) (hb1.mono (by simp; omega)); obtain ⟨hk1, hf1⟩ := bcell hb1; have qhk10 : w1.cell? ⟨w.heap.size, 0, none⟩ = some (.int .u8 (t.toNat : Int)) := (by rw [hk1 _ _ (by simp; omega)]; simp [go_sem]); have qhk11 : w1.cell? ⟨w.heap.size, 1, none⟩ = some (.slice A1 n1 c1) := (by rw [hk1 _ _ (by simp; omega)]; simp [go_sem]); have qhk12 : w1.cell? ⟨w.heap.size, 2, none⟩ = some (.slice A2 n2 c2) := (by rw [hk1 _ _ (by simp; omega)]; simp [go_sem]); have hz1 : w.heap.size + 1 < w1.heap.size := by have := hb1.size; simp at this; omega)
      | (go_at_call 22; ((with_reducible refine (clone_any A2 n2 c2 raw _ (h2.up (by (repeat (first | exact Below.refl _ _ | assumption | (refine Below.setCell ?_ (by first | omega | (simp; done) | (simp; omega)) _) | (refine Below.alloc ?_ (by first | omega | (simp; done) | (simp; omega)) _) | (refine below_drewN ?_ _) | (refine Below.drew ?_))))) (by omega)).mono ?_); rintro e w2 ⟨A4, n4, c4, rfl, hv2, hb2⟩); have hbw2 : Below w.heap.size w w2 := Below.trans (by (repeat (first | exact Below.refl _ _ | assumption | (refine Below.setCell ?_ (by first | omega | (simp; done) | (simp; omega)) _) | (refine Below.alloc ?_ (by first | omega | (simp; done) | (simp; omega)) _) | (refine below_drewN ?_ _) | (refine Below.drew ?_)))) (hb2.mono (by first | (simp; done) | (simp; omega) | exact hbw1.size)); obtain ⟨hk2, hf2⟩ := bcell hb2; have qhk20 : w2.cell? ⟨w.heap.size, 0, none⟩ = some (.int .u8 (t.toNat : Int)) := (by rw [hk2 _ _ (by first | (simp; done) | omega)]; assumption); have qhk21 : w2.cell? ⟨w.heap.size, 1, none⟩ = some (.slice A1 n1 c1) := (by rw [hk2 _ _ (by first | (simp; done) | omega)]; assumption); have qhk22 : w2.cell? ⟨w.heap.size, 2, none⟩ = some (.slice A2 n2 c2) := (by rw [hk2 _ _ (by first | (simp; done) | omega)]; assumption); have hz2 : w.heap.size + 1 < w2.heap.size := by have := hb2.size; omega))
  go_wp2
  have hv1' := hv1.mono (lo' := w.heap.size + 2) (hi' := w1.heap.size) (by simp) (Nat.le_refl _)
  have hs1 := hb1.size
  simp at hs1
  have hs2 := hb2.size
  have p0 : w2.cell? ⟨w.heap.size + 1, 0, none⟩ = some (.int .u8 0) := by rw [hk2 _ _ hz1, hk1 _ _ (by simp)]; simp [go_sem]
  have p1 : w2.cell? ⟨w.heap.size + 1, 1, none⟩ = some (.slice none 0 0) := by rw [hk2 _ _ hz1, hk1 _ _ (by simp)]; simp [go_sem]
  have p2 : w2.cell? ⟨w.heap.size + 1, 2, none⟩ = some (.slice none 0 0) := by rw [hk2 _ _ hz1, hk1 _ _ (by simp)]; simp [go_sem]
  refine bodyPost_ret (v := .agg #[.int .u8 (t.toNat : Int), .slice A3 n3 c3, .slice A4 n4 c4]) (by simp [results, Tryd.results21, go_sem, p0, p1, p2]) rfl
    ⟨_, _, _, _, _, _, rfl, ⟨w1.heap.size, by omega, ((((hv1'.below hb2 (Nat.le_refl _)).setCell (by simp) _).setCell (by simp) _).setCell (by simp) _).mono (by omega) (Nat.le_refl _),
      _, by simpa using hs2, ((((hv2.setCell (by simp; omega) _).setCell (by simp; omega) _).setCell (by simp; omega) _).mono (Nat.le_refl _) (by simp)), Nat.le_refl _⟩, by (repeat (first | exact Below.refl _ _ | assumption | (refine Below.setCell ?_ (by first | omega | (simp; done) | (simp; omega)) _) | (refine Below.alloc ?_ (by first | omega | (simp; done) | (simp; omega)) _) | (refine below_drewN ?_ _) | (refine Below.drew ?_)))⟩
end Go.Proofs.YtnfngnmajjkdbaaDoor
