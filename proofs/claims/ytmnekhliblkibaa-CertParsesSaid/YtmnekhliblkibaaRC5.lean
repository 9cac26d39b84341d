/- The contracts of the document's moment and key. -/
import Derived.Test.YtmnekhliblkibaaRC2b
import Derived.Test.YtmnekhliblkibaaRC1
namespace Go.Proofs.Ytmnekhliblkibaa
open Go.RowKit
set_option maxRecDepth 100000
set_option linter.unusedVariables false
set_option linter.unusedSimpArgs false

/-- A moment told, and whether it is right. -/
def TimeQ (w : World) (o : Option Tm) (e : Ending) (w' : World) : Prop :=
  ∃ (q : Bool) (T : Tm), e = .returned (.tuple #[T.v, .bool q]) ∧ Below w.heap.size w w' ∧ o = if q = true then some T else none
theorem ToldPost.timeQ {o : Option Tm} {w w' : World} {e : Ending} (h : ToldPost o w e w') : TimeQ w o e w' := by
  obtain ⟨hb, ⟨h1, rfl⟩ | ⟨t, h1, rfl⟩⟩ := h
  · exact ⟨false, _, rfl, hb, h1⟩
  · exact ⟨true, t, rfl, hb, h1⟩

set_option maxHeartbeats 2000000 in
theorem rmom_any (t : UInt8) (A1 : Option Addr) (n1 c1 : Nat) (vr : Value) (b r : List UInt8) (w : World) (h1 : Rd w w.heap.size A1 n1 c1 b) :
    Calls Try.prog 77 #[.agg #[.int .u8 (t.toNat : Int), .slice A1 n1 c1, vr]] w (TimeQ w (Cert.moment (t, b, r))) := by
  have hx0 := (Blk.new w 50 #[.int .u8 (t.toNat : Int), .slice A1 n1 c1, vr]).alloc (.cells #[.int .u16 0, .int .u8 0, .int .u8 0, .int .u8 0, .int .u8 0, .int .u8 0] 27)
  have hb0 := Blk.new (w.alloc (.cells #[.int .u8 (t.toNat : Int), .slice A1 n1 c1, vr] 50)) 27 #[.int .u16 0, .int .u8 0, .int .u8 0, .int .u8 0, .int .u8 0, .int .u8 0]
  rw [World.size_alloc] at hb0
  by_cases h23 : (t.toNat : Int) = 23
  · have e23 : Cert.moment (t, b, r) = Stamp.told 2 Stamp.year2 b := by unfold Cert.moment; rw [if_pos h23]
    have b23 : ((t.toNat : Int) == 23) = true := by simp [h23]
    have HE := Lib.hid e23
    clear h23 e23
    go_enter Try.func77, Try.ntmps77
    go_wp2_with fail
    refine (rutc_any A1 n1 c1 b _ (((h1.alloc (Nat.le_refl _) _).alloc (by simp) _).more (by simp; omega))).mono ?_
    intro e w1 hp
    obtain ⟨q, ⟨y, mo, d, hh, mi, s⟩, rfl, hb1, ho⟩ := hp.timeQ
    have hbw : Below w.heap.size w w1 := Below.trans (by (repeat (first | exact Below.refl _ _ | assumption | (refine Below.setCell ?_ (by first | omega | (simp; done) | (simp; omega)) _) | (refine Below.alloc ?_ (by first | omega | (simp; done) | (simp; omega)) _) | (refine below_drewN ?_ _) | (refine Below.drew ?_)))) (hb1.mono (by simp; omega))
    have e1 := hb0.below hb1 (by simp)
    have H1 := Lib.hid (And.intro ho (And.intro hbw e1))
    obtain ⟨r0, r1⟩ := e1.facts
    clear ho hbw hb1 hb0 h1 e1 hp hx0
    dsimp only [Tm.v]
    go_wp2
    have e4 := ((((((H1.out.2.2.set_ 0 (.int .u16 (y : Int))).set_ 1 (.int .u8 (mo : Int))).set_ 2 (.int .u8 (d : Int))).set_ 3 (.int .u8 (hh : Int))).set_ 4 (.int .u8 (mi : Int))).set_ 5 (.int .u8 (s : Int)))
    have hld := load_time _ _ _ _ _ _ _ _ e4
    refine bodyPost_ret (results_cell_tmp rfl _ _ _ _ _ rfl hld) rfl ?_
    refine ⟨q, ⟨y, mo, d, hh, mi, s⟩, rfl, ?_, HE.out.trans H1.out.1⟩
    have hbx := H1.out.2.1
    exact ((((((hbx.setCell (by dsimp only; omega) _).setCell (by dsimp only; omega) _).setCell (by dsimp only; omega) _).setCell (by dsimp only; omega) _).setCell (by dsimp only; omega) _).setCell (by dsimp only; omega) _)
  · have b23 : ((t.toNat : Int) == 23) = false := by simp [h23]
    obtain ⟨p, hp24⟩ : ∃ p, ((t.toNat : Int) == 24) = p := ⟨_, rfl⟩
    have e24 : Cert.moment (t, b, r) = if p = true then Stamp.told 4 id b else none := by
      unfold Cert.moment
      rw [if_neg h23, ← hp24]
      by_cases h : (t.toNat : Int) = 24
      · rw [if_pos h, if_pos (by simp [h])]
      · rw [if_neg h, if_neg (by simp [h])]
    have HE := Lib.hid e24
    clear h23 e24
    go_enter Try.func77, Try.ntmps77
    go_wp2_with fail
    refine (rgeneral_any A1 n1 c1 b _ (((h1.alloc (Nat.le_refl _) _).alloc (by simp) _).more (by simp; omega))).mono ?_
    intro e w1 hp
    obtain ⟨q, ⟨y, mo, d, hh, mi, s⟩, rfl, hb1, ho⟩ := hp.timeQ
    have hbw : Below w.heap.size w w1 := Below.trans (by (repeat (first | exact Below.refl _ _ | assumption | (refine Below.setCell ?_ (by first | omega | (simp; done) | (simp; omega)) _) | (refine Below.alloc ?_ (by first | omega | (simp; done) | (simp; omega)) _) | (refine below_drewN ?_ _) | (refine Below.drew ?_)))) (hb1.mono (by simp; omega))
    have e1 := (hb0.below hb1 (by simp)).alloc (.cells #[.int .u16 (y : Int), .int .u8 (mo : Int), .int .u8 (d : Int), .int .u8 (hh : Int), .int .u8 (mi : Int), .int .u8 (s : Int)] 27)
    have x1 := (hx0.below hb1 (by simp; omega)).alloc (.cells #[.int .u16 (y : Int), .int .u8 (mo : Int), .int .u8 (d : Int), .int .u8 (hh : Int), .int .u8 (mi : Int), .int .u8 (s : Int)] 27)
    have t1 := Blk.new w1 27 #[.int .u16 (y : Int), .int .u8 (mo : Int), .int .u8 (d : Int), .int .u8 (hh : Int), .int .u8 (mi : Int), .int .u8 (s : Int)]
    have hbx := hbw.alloc (hbw.size) (.cells #[.int .u16 (y : Int), .int .u8 (mo : Int), .int .u8 (d : Int), .int .u8 (hh : Int), .int .u8 (mi : Int), .int .u8 (s : Int)] 27)
    have H1 := Lib.hid (And.intro ho (And.intro hbx (And.intro e1 (And.intro x1 t1))))
    have hs1 := hb1.size
    simp only [World.size_alloc] at hs1
    clear ho hbw hb1 hb0 h1 e1 hp hx0 x1 t1 hbx
    dsimp only [Tm.v]
    go_upto_region 4 with fail
    obtain ⟨W, hW⟩ : ∃ W, w1.alloc (.cells #[.int .u16 (y : Int), .int .u8 (mo : Int), .int .u8 (d : Int), .int .u8 (hh : Int), .int .u8 (mi : Int), .int .u8 (s : Int)] 27) = W := ⟨_, rfl⟩
    rw [hW] at H1 ⊢
    clear hW
    obtain ⟨G, hG⟩ : ∃ G, w1.heap.size = G := ⟨_, rfl⟩
    rw [hG] at H1 hs1 ⊢
    clear hG
    obtain ⟨N, hN⟩ : ∃ N, w.heap.size = N := ⟨_, rfl⟩
    have HN := Lib.hid hN
    rw [hN] at H1 hs1 ⊢
    clear hN
    obtain ⟨r0, r1⟩ := H1.out.2.2.1.facts
    have k0 : W.cell? ⟨G, 0, none⟩ = some (.int .u16 (y : Int)) := H1.out.2.2.2.2.cell 0
    have k1 : W.cell? ⟨G, 1, none⟩ = some (.int .u8 (mo : Int)) := H1.out.2.2.2.2.cell 1
    have k2 : W.cell? ⟨G, 2, none⟩ = some (.int .u8 (d : Int)) := H1.out.2.2.2.2.cell 2
    have k3 : W.cell? ⟨G, 3, none⟩ = some (.int .u8 (hh : Int)) := H1.out.2.2.2.2.cell 3
    have k4 : W.cell? ⟨G, 4, none⟩ = some (.int .u8 (mi : Int)) := H1.out.2.2.2.2.cell 4
    have k5 : W.cell? ⟨G, 5, none⟩ = some (.int .u8 (s : Int)) := H1.out.2.2.2.2.cell 5
    have kx : W.cell? ⟨N, 0, none⟩ = some (.int .u8 (t.toNat : Int)) := H1.out.2.2.2.1.cell 0
    have fin : ∀ (Wx : World) (tmps : Array Value) (qq : Bool), Blk Wx (N + 1) 27 #[.int .u16 (y : Int), .int .u8 (mo : Int), .int .u8 (d : Int), .int .u8 (hh : Int), .int .u8 (mi : Int), .int .u8 (s : Int)] → Below N w Wx →
        tmps.getD 2 undef = .pointer (some ⟨N + 1, 0, none⟩) → tmps.getD 3 undef = .bool qq → (qq = (q && p)) → bodyPost Try.prog Try.f77 (TimeQ w (Cert.moment (t, b, r))) .ret { tmps := tmps, defers := [] } Wx := by
      rintro Wx tmps qq e4 hbx h2 h3 rfl
      have hld := load_time _ _ _ _ _ _ _ _ e4
      refine bodyPost_ret (results_cell_tmp rfl _ _ _ _ _ h2 hld) rfl ?_
      rw [h3]
      refine ⟨q && p, ⟨y, mo, d, hh, mi, s⟩, rfl, by rw [HN.out]; exact hbx, ?_⟩
      rw [HE.out, H1.out.1]
      cases q <;> cases p <;> rfl
    have hset := (((((((H1.out.2.2.1).set_ 0 (.int .u16 (y : Int))).set_ 1 (.int .u8 (mo : Int))).set_ 2 (.int .u8 (d : Int))).set_ 3 (.int .u8 (hh : Int))).set_ 4 (.int .u8 (mi : Int))).set_ 5 (.int .u8 (s : Int))).drew
    have hbws : Below N w _ := ((((((H1.out.2.1.setCell (p := ⟨N + 1, 0, none⟩) (by dsimp only; omega) (.int .u16 (y : Int))).setCell (p := ⟨N + 1, 1, none⟩) (by dsimp only; omega) (.int .u8 (mo : Int))).setCell (p := ⟨N + 1, 2, none⟩) (by dsimp only; omega) (.int .u8 (d : Int))).setCell (p := ⟨N + 1, 3, none⟩) (by dsimp only; omega) (.int .u8 (hh : Int))).setCell (p := ⟨N + 1, 4, none⟩) (by dsimp only; omega) (.int .u8 (mi : Int))).setCell (p := ⟨N + 1, 5, none⟩) (by dsimp only; omega) (.int .u8 (s : Int))).drew
    have HSET := Lib.hid (And.intro hset hbws)
    clear hset hbws
    have FIN := Lib.hid fin
    clear fin
    have hGN : G ≠ N + 1 := by omega
    have hGN' : ¬ N + 1 = G := by omega
    cases q
    · go_region
      all_goals go_wp2
      refine FIN.out _ _ false HSET.out.1 HSET.out.2 rfl rfl rfl
    · go_region_held3 (fun w' => w'.cell? ⟨G, 0, none⟩ = some (.int .u16 (y : Int)) ∧ w'.cell? ⟨G, 1, none⟩ = some (.int .u8 (mo : Int)) ∧ w'.cell? ⟨G, 2, none⟩ = some (.int .u8 (d : Int)) ∧ w'.cell? ⟨G, 3, none⟩ = some (.int .u8 (hh : Int)) ∧ w'.cell? ⟨G, 4, none⟩ = some (.int .u8 (mi : Int)) ∧ w'.cell? ⟨G, 5, none⟩ = some (.int .u8 (s : Int)) ∧ w'.cell? ⟨N, 0, none⟩ = some (.int .u8 (t.toNat : Int))) (go_keep) (fail)
      go_wp2
      refine FIN.out _ _ p HSET.out.1 HSET.out.2 rfl ?_ rfl
      first | rfl | (simp [hp24])
end Go.Proofs.Ytmnekhliblkibaa
