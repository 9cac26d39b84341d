/- Joined of: Stamp6 Stamp7 Stamp8 Stamp9 Stamp10. -/
import Derived.Test.YtmnekhliblkibaaGF
import Derived.Test.YtmnekhliblkibaaGE
section
/- The contract of stamp.told at closure lintel/stamp.General$1. (Printed by gentold.py.) -/
namespace Go.Proofs.Ytmnekhliblkibaa
open Go.RowKit
set_option maxRecDepth 100000
set_option linter.unusedVariables false
set_option linter.unusedSimpArgs false

set_option maxHeartbeats 4000000 in
theorem told4_main (b o c : Nat) (xs : List UInt8) (w : World) (h : Rd w w.heap.size (some ⟨b, o, none⟩) 15 c xs) (hx : xs[14]? = some 90) (hd : (xs.take 14).any notDig = false) :
    Calls Try.prog 102 #[.slice (some ⟨b, o, none⟩) 15 c, .int .i64 4, .func (.func 103) #[] #[]] w (ToldPost (Stamp.told 4 id xs) w) := by
  have hl := h.len
  have hdk : ∀ k j, k + j ≤ 14 → ((xs.drop k).take j).any notDig = false := by
    intro k j hkj
    rw [List.any_eq_false] at hd ⊢
    intro y hy
    refine hd y ?_
    obtain ⟨i, hi⟩ := List.getElem?_of_mem hy
    rw [List.getElem?_take] at hi
    split at hi
    · rw [List.getElem?_drop] at hi
      exact List.mem_of_getElem? (i := k + i) (by rw [List.getElem?_take, if_pos (by omega)]; exact hi)
    · cases hi
  obtain ⟨V, hV⟩ : ∃ V, Stamp.told 4 id xs = V := ⟨_, rfl⟩
  rw [hV]
  have hV2 : (if Stamp.right (Stamp.tm 4 id xs) = true then some (Stamp.tm 4 id xs) else none) = V := by
    rw [← hV]
    unfold Stamp.told
    by_cases hr : Stamp.right (Stamp.tm 4 id xs) = true
    · rw [if_pos hr, if_pos ⟨hl, hx, hd, hr⟩]
    · rw [if_neg hr, if_neg (fun h' => hr h'.2.2.2)]
  obtain ⟨b', o', e, hb, hcell⟩ := h.at_ (by omega)
  injection e with e
  injection e with e1 e2
  subst e1 e2
  have hc : w.cell? ⟨b, o + 14, none⟩ = some (.int .u8 90) := hcell 14 90 hx
  have hcp := h.cap
  have hcm := h.capm
  have HX := Lib.hid (And.intro (h.upto 14 (by omega)) (And.intro hd (And.intro h (And.intro hdk hV2))))
  have hB := hb
  have hmf : ∀ (fn : Fn) (first cap : Array Value) (w : World), (Instr.makeFunc fn first cap).run Try.prog w = .ok (.func fn first cap) w := fun _ _ _ _ => rfl
  have hB0 := Lib.hid ((Blk.new w 22 #[.slice (some ⟨b, o, none⟩) 15 c]).alloc (.cells #[.int .u16 0, .int .u8 0, .int .u8 0, .int .u8 0, .int .u8 0, .int .u8 0] 27))
  have hB1 : Hid (Blk ((w.alloc (.cells #[.slice (some ⟨b, o, none⟩) 15 c] 22)).alloc (.cells #[.int .u16 0, .int .u8 0, .int .u8 0, .int .u8 0, .int .u8 0, .int .u8 0] 27)) (w.heap.size + 1) 27 #[.int .u16 0, .int .u8 0, .int .u8 0, .int .u8 0, .int .u8 0, .int .u8 0]) := Lib.hid (by have := Blk.new (w.alloc (.cells #[.slice (some ⟨b, o, none⟩) 15 c] 22)) 27 #[.int .u16 0, .int .u8 0, .int .u8 0, .int .u8 0, .int .u8 0, .int .u8 0]; simpa using this)
  clear h hcell hx hd hV hV2 hdk hl
  go_enter Try.func102, Try.ntmps102
  go_wp2_with fail
  refine (containsFunc_any (some ⟨b, o, none⟩) 14 c (xs.take 14) w.heap.size _ ((HX.out.1.alloc (Nat.le_refl _) _).alloc (by simp) _)).mono ?_
  rintro e w' ⟨rfl, rfl⟩
  rw [HX.out.2.1]
  go_wp2_with fail
  refine (next_any (some ⟨b, o, none⟩) 15 c xs w.heap.size w.heap.size (w.heap.size + 2) 4 0 _ (((HX.out.2.2.1.alloc (Nat.le_refl _) _).alloc (by simp) _).alloc (by simp; omega) _) (by omega) ((hB0.out.alloc _).cell 0) (by omega) (by have := Blk.new ((w.alloc (.cells #[.slice (some ⟨b, o, none⟩) 15 c] 22)).alloc (.cells #[.int .u16 0, .int .u8 0, .int .u8 0, .int .u8 0, .int .u8 0, .int .u8 0] 27)) 3 #[.int .i64 0]; simpa using this) (by omega) (by omega) (by omega) (HX.out.2.2.2.1 0 4 (by omega))).mono ?_
  rintro e w1 ⟨rfl, hg1, hs1, hb1⟩
  have hdlt : Stamp.dig ((xs.drop 0).take 4) < 10000 := by
    have h1 := dig_lt _ (HX.out.2.2.2.1 0 4 (by omega))
    have h2 : (10 : Nat) ^ ((xs.drop 0).take 4).length ≤ 10 ^ 4 := Nat.pow_le_pow_right (by omega) (by simp; omega)
    omega
  obtain ⟨Y, hY⟩ : ∃ Y, Stamp.dig ((xs.drop 0).take 4) = Y := ⟨_, rfl⟩
  rw [hY] at hdlt ⊢
  simp only [World.size_alloc] at hs1
  have hbw1 : Below w.heap.size w w1 := Below.grown (by (repeat (first | exact Below.refl _ _ | assumption | (refine Below.setCell ?_ (by first | omega | (simp; done) | (simp; omega)) _) | (refine Below.alloc ?_ (by first | omega | (simp; done) | (simp; omega)) _) | (refine below_drewN ?_ _) | (refine Below.drew ?_)))) hg1 (by simp; omega) (fun k e => by injection e with e; omega)
  have c0 : Blk w1 w.heap.size 22 #[.slice (some ⟨b, o, none⟩) 15 c] := (hB0.out.alloc _).grown hg1 (fun e => by injection e with e; omega)
  have c1 : Blk w1 (w.heap.size + 1) 27 #[.int .u16 0, .int .u8 0, .int .u8 0, .int .u8 0, .int .u8 0, .int .u8 0] := (hB1.out.alloc _).grown hg1 (fun e => by injection e with e; omega)
  have H1 := Lib.hid (And.intro hY (And.intro hbw1 (And.intro c0 (And.intro c1 hb1))))
  clear hY hbw1 c0 c1 hb1 hg1
  go_wp2_with fail
  refine (gen1_any Y _).mono ?_
  rintro e w2 ⟨rfl, rfl⟩
  obtain ⟨Z, hZ, hZb⟩ : ∃ Z, Y = Z ∧ Z < 10000 := ⟨Y, rfl, hdlt⟩
  rw [hZ]
  have HZ := Lib.hid hZ
  clear hZ
  go_wp2
  go_loopw [50] (fun i wr => ∃ k : Nat, k ≤ 5 ∧ i = .int .i64 k ∧ ToldI 4 (Z) (.slice (some ⟨b, o, none⟩) 15 c) xs w k wr) (fun i _ => 5 - (intOf i).toNat)
  case atStart =>
    refine ⟨0, by omega, rfl, ?_⟩
    have hh := H1.out
    refine ⟨by have := hh.2.1; (repeat (first | exact Below.refl _ _ | assumption | (refine Below.setCell ?_ (by first | omega | (simp; done) | (simp; omega)) _) | (refine Below.alloc ?_ (by first | omega | (simp; done) | (simp; omega)) _) | (refine below_drewN ?_ _) | (refine Below.drew ?_))), by simp; omega, (hh.2.2.1.alloc _).alloc _, (hh.2.2.2.1.alloc _).alloc _, ?_, ?_, ?_⟩
    · have := (hh.2.2.2.2.alloc (.cells #[.int .u16 ((Z : Nat) : Int), .int .u8 0, .int .u8 0, .int .u8 0, .int .u8 0, .int .u8 0] 27))
      simpa using this.alloc _
    · have := Blk.new w2 27 (Stamp.cells (Z) 4 xs 0)
      rw [hs1] at this
      exact this.alloc _
    · have := Blk.new (w2.alloc (.cells (Stamp.cells (Z) 4 xs 0) 27)) 151 #[.pointer (some ⟨w.heap.size + 1 + 1 + 1, 1, none⟩), .pointer (some ⟨w.heap.size + 1 + 1 + 1, 2, none⟩), .pointer (some ⟨w.heap.size + 1 + 1 + 1, 3, none⟩), .pointer (some ⟨w.heap.size + 1 + 1 + 1, 4, none⟩), .pointer (some ⟨w.heap.size + 1 + 1 + 1, 5, none⟩)]
      simp only [World.size_alloc, hs1] at this
      exact this
  case round =>
    obtain ⟨k, hk, rfl, hI⟩ := hrel
    have hs := hI.size
    by_cases hlt : k < 5
    · have hlt' : (k : Int) < 5 := by omega
      have hp : wr.cell? ⟨w.heap.size + 1 + 1 + 1 + 1, k, none⟩ = some (.pointer (some ⟨w.heap.size + 1 + 1 + 1, k + 1, none⟩)) := by
        rw [hI.b4.cell k]
        rcases k with _ | _ | _ | _ | _ | k <;> first | rfl | omega
      have hdig := HX.out.2.2.2.1 (4 + 2 * k) 2 (by omega)
      have hat := at2_lt hdig
      have HI := Lib.hid (And.intro hI hdig)
      clear hI hdig
      go_wp2_with fail
      refine (next_any (some ⟨b, o, none⟩) 15 c xs w.heap.size w.heap.size (w.heap.size + 1 + 1) 2 (4 + 2 * k) _ (HX.out.2.2.1.below HI.out.1.bel) (by omega) (HI.out.1.b0.cell 0) (by omega) HI.out.1.b2 (by omega) (by omega) (by omega) HI.out.2).mono ?_
      rintro e w3 ⟨rfl, hg3, hs3, hb3⟩
      have d3 := HI.out.1.b3.grown hg3 (fun e => by injection e with e; omega)
      have hI3 : Hid (ToldI 4 (Z) (.slice (some ⟨b, o, none⟩) 15 c) xs w (k + 1) (w3.setCell ⟨w.heap.size + 1 + 1 + 1, k + 1, none⟩ (.int .u8 (Stamp.at2 xs (4 + 2 * k) : Int)))) := Lib.hid (by
        have hI := HI.out.1
        refine ⟨(hI.bel.grown hg3 (by omega) (fun q e => by injection e with e; omega)).setCell (by dsimp only; omega) _, by simp; omega, (hI.b0.grown hg3 (fun e => by injection e with e; omega)).far (by dsimp only; omega) _, (hI.b1.grown hg3 (fun e => by injection e with e; omega)).far (by dsimp only; omega) _, ?_, ?_, (hI.b4.grown hg3 (fun e => by injection e with e; omega)).far (by show _ ≠ _; dsimp only; omega) _⟩
        · have := hb3.far (p := ⟨w.heap.size + 1 + 1 + 1, k + 1, none⟩) (by simp) (.int .u8 (Stamp.at2 xs (4 + 2 * k) : Int))
          rwa [show 4 + 2 * (k + 1) = 4 + 2 * k + 2 from by omega]
        · have := d3.set_ (k + 1) (.int .u8 (Stamp.at2 xs (4 + 2 * k) : Int))
          rwa [show (Stamp.cells (Z) 4 xs k).setIfInBounds (k + 1) (.int .u8 (Stamp.at2 xs (4 + 2 * k) : Int)) = Stamp.cells (Z) 4 xs (k + 1) from by
            rcases k with _ | _ | _ | _ | _ | k <;> first | rfl | omega] at this)
      have hc3 : w3.cell? ⟨w.heap.size + 1 + 1 + 1, k + 1, none⟩ = some (.int .u8 0) := by
        rw [d3.cell (k + 1)]
        rcases k with _ | _ | _ | _ | _ | k <;> first | rfl | omega
      have hf3 := d3.frozen (k + 1)
      have hz : Stamp.dig ((xs.drop (4 + 2 * k)).take 2) = Stamp.at2 xs (4 + 2 * k) := rfl
      rw [hz]
      obtain ⟨D, hD⟩ : ∃ D, Stamp.at2 xs (4 + 2 * k) = D := ⟨_, rfl⟩
      rw [hD] at hat hI3 ⊢
      clear hz hD d3 hb3 hg3 hp
      go_wp2
      go_roundw
      case rel => exact ⟨k + 1, by omega, by go_num, hI3.out⟩
      case measure => simp [intOf]; omega
    · obtain rfl : k = 5 := by omega
      have hge : ¬ ((5 : Nat) : Int) < 5 := by omega
      have hc3 := hI.b3.cell
      have k0 : wr.cell? ⟨w.heap.size + 1 + 1 + 1, 0, none⟩ = some (.int .u16 ((Z : Nat) : Int)) := hc3 0
      have k1 : wr.cell? ⟨w.heap.size + 1 + 1 + 1, 1, none⟩ = some (.int .u8 (Stamp.at2 xs 4 : Int)) := hc3 1
      have k2 : wr.cell? ⟨w.heap.size + 1 + 1 + 1, 2, none⟩ = some (.int .u8 (Stamp.at2 xs 6 : Int)) := hc3 2
      have k3 : wr.cell? ⟨w.heap.size + 1 + 1 + 1, 3, none⟩ = some (.int .u8 (Stamp.at2 xs 8 : Int)) := hc3 3
      have k4 : wr.cell? ⟨w.heap.size + 1 + 1 + 1, 4, none⟩ = some (.int .u8 (Stamp.at2 xs 10 : Int)) := hc3 4
      have k5 : wr.cell? ⟨w.heap.size + 1 + 1 + 1, 5, none⟩ = some (.int .u8 (Stamp.at2 xs 12 : Int)) := hc3 5
      have hmo := at2_lt (HX.out.2.2.2.1 4 2 (by omega))
      have htm : Stamp.tm 4 id xs = ⟨Z, Stamp.at2 xs 4, Stamp.at2 xs 6, Stamp.at2 xs 8, Stamp.at2 xs 10, Stamp.at2 xs 12⟩ := by
        unfold Stamp.tm
        rw [H1.out.1, show id Y = Z from HZ.out]
      have HT := Lib.hid (And.intro htm hI)
      clear hI hc3 htm
      go_wp2_with fail
      refine (right_any ⟨Z, Stamp.at2 xs 4, Stamp.at2 xs 6, Stamp.at2 xs 8, Stamp.at2 xs 10, Stamp.at2 xs 12⟩ _ (by dsimp only; omega) (Nat.lt_trans hmo (by omega))).mono ?_
      rintro e w3 ⟨rfl, hb3⟩
      rw [← HT.out.1]
      have hI := HT.out.2
      have hV := HX.out.2.2.2.2
      have hbw3 := hI.bel.trans (hb3.mono (by omega))
      have j0 : w3.cell? ⟨w.heap.size + 1 + 1 + 1, 0, none⟩ = _ := (hb3.cell (p := ⟨w.heap.size + 1 + 1 + 1, 0, none⟩) (by simp; omega)).trans k0
      have j1 : w3.cell? ⟨w.heap.size + 1 + 1 + 1, 1, none⟩ = _ := (hb3.cell (p := ⟨w.heap.size + 1 + 1 + 1, 1, none⟩) (by simp; omega)).trans k1
      have j2 : w3.cell? ⟨w.heap.size + 1 + 1 + 1, 2, none⟩ = _ := (hb3.cell (p := ⟨w.heap.size + 1 + 1 + 1, 2, none⟩) (by simp; omega)).trans k2
      have j3 : w3.cell? ⟨w.heap.size + 1 + 1 + 1, 3, none⟩ = _ := (hb3.cell (p := ⟨w.heap.size + 1 + 1 + 1, 3, none⟩) (by simp; omega)).trans k3
      have j4 : w3.cell? ⟨w.heap.size + 1 + 1 + 1, 4, none⟩ = _ := (hb3.cell (p := ⟨w.heap.size + 1 + 1 + 1, 4, none⟩) (by simp; omega)).trans k4
      have j5 : w3.cell? ⟨w.heap.size + 1 + 1 + 1, 5, none⟩ = _ := (hb3.cell (p := ⟨w.heap.size + 1 + 1 + 1, 5, none⟩) (by simp; omega)).trans k5
      have e1 := hI.b1.below hb3 (by omega)
      obtain ⟨q0, q1⟩ := e1.facts
      have H3 := Lib.hid (And.intro hbw3 (And.intro hV e1))
      clear hI hV hbw3 hb3 e1
      cases hr : Stamp.right (Stamp.tm 4 id xs) with
      | false =>
        have HR := Lib.hid hr
        clear hr
        go_wp2
        have e1 := H3.out.2.2
        have e2 := ((((((e1.set_ 0 (.int .u16 0)).set_ 1 (.int .u8 0)).set_ 2 (.int .u8 0)).set_ 3 (.int .u8 0)).set_ 4 (.int .u8 0)).set_ 5 (.int .u8 0))
        have hld := load_time _ _ _ _ _ _ _ _ e2
        refine bodyPost_ret (results_cell_tmp rfl _ _ _ _ _ rfl hld) rfl ?_
        have hbw := H3.out.1
        exact ⟨((((((hbw.setCell (by dsimp only; omega) _).setCell (by dsimp only; omega) _).setCell (by dsimp only; omega) _).setCell (by dsimp only; omega) _).setCell (by dsimp only; omega) _).setCell (by dsimp only; omega) _), .inl ⟨by rw [← H3.out.2.1, HR.out]; rfl, rfl⟩⟩
      | true =>
        have HR := Lib.hid hr
        clear hr
        go_wp2
        have e1 := H3.out.2.2
        have e2 := ((((((e1.set_ 0 (.int .u16 ((Z : Nat) : Int))).set_ 1 (.int .u8 (Stamp.at2 xs 4 : Int))).set_ 2 (.int .u8 (Stamp.at2 xs 6 : Int))).set_ 3 (.int .u8 (Stamp.at2 xs 8 : Int))).set_ 4 (.int .u8 (Stamp.at2 xs 10 : Int))).set_ 5 (.int .u8 (Stamp.at2 xs 12 : Int)))
        have hld := load_time _ _ _ _ _ _ _ _ e2
        refine bodyPost_ret (results_cell_tmp rfl _ _ _ _ _ rfl hld) rfl ?_
        have hbw := H3.out.1
        exact ⟨((((((hbw.setCell (by dsimp only; omega) _).setCell (by dsimp only; omega) _).setCell (by dsimp only; omega) _).setCell (by dsimp only; omega) _).setCell (by dsimp only; omega) _).setCell (by dsimp only; omega) _), .inr ⟨Stamp.tm 4 id xs, by rw [← H3.out.2.1, HR.out]; rfl, by rw [HT.out.1]; rfl⟩⟩

theorem told4_any (A : Option Addr) (m c : Nat) (xs : List UInt8) (w : World) (h : Rd w w.heap.size A m c xs) :
    Calls Try.prog 102 #[.slice A m c, .int .i64 4, .func (.func 103) #[] #[]] w (ToldPost (Stamp.told 4 id xs) w) := by
  by_cases hl : m = 15
  · subst hl
    obtain ⟨b, o, rfl, _, _⟩ := h.at_ (by omega)
    have hlen := h.len
    obtain ⟨x, hx⟩ : ∃ x, xs[14]? = some x := ⟨_, List.getElem?_eq_getElem (by omega)⟩
    by_cases hz : x = 90
    · subst hz
      cases hd : (xs.take 14).any notDig with
      | true => exact told4_dig b o c xs w h hx hd
      | false => exact told4_main b o c xs w h hx hd
    · exact told4_last b o c x xs w h hx hz
  · exact told4_len A m c xs w h hl
end Go.Proofs.Ytmnekhliblkibaa
end

section
/- The contract of stamp.told at closure lintel/stamp.Utc$1. (Printed by gentold.py.) -/
namespace Go.Proofs.Ytmnekhliblkibaa
open Go.RowKit
set_option maxRecDepth 100000
set_option linter.unusedVariables false
set_option linter.unusedSimpArgs false

set_option maxHeartbeats 4000000 in
theorem told2_main (b o c : Nat) (xs : List UInt8) (w : World) (h : Rd w w.heap.size (some ⟨b, o, none⟩) 13 c xs) (hx : xs[12]? = some 90) (hd : (xs.take 12).any notDig = false) :
    Calls Try.prog 102 #[.slice (some ⟨b, o, none⟩) 13 c, .int .i64 2, .func (.func 104) #[] #[]] w (ToldPost (Stamp.told 2 Stamp.year2 xs) w) := by
  have hl := h.len
  have hdk : ∀ k j, k + j ≤ 12 → ((xs.drop k).take j).any notDig = false := by
    intro k j hkj
    rw [List.any_eq_false] at hd ⊢
    intro y hy
    refine hd y ?_
    obtain ⟨i, hi⟩ := List.getElem?_of_mem hy
    rw [List.getElem?_take] at hi
    split at hi
    · rw [List.getElem?_drop] at hi
      exact List.mem_of_getElem? (i := k + i) (by rw [List.getElem?_take, if_pos (by omega)]; exact hi)
    · cases hi
  obtain ⟨V, hV⟩ : ∃ V, Stamp.told 2 Stamp.year2 xs = V := ⟨_, rfl⟩
  rw [hV]
  have hV2 : (if Stamp.right (Stamp.tm 2 Stamp.year2 xs) = true then some (Stamp.tm 2 Stamp.year2 xs) else none) = V := by
    rw [← hV]
    unfold Stamp.told
    by_cases hr : Stamp.right (Stamp.tm 2 Stamp.year2 xs) = true
    · rw [if_pos hr, if_pos ⟨hl, hx, hd, hr⟩]
    · rw [if_neg hr, if_neg (fun h' => hr h'.2.2.2)]
  obtain ⟨b', o', e, hb, hcell⟩ := h.at_ (by omega)
  injection e with e
  injection e with e1 e2
  subst e1 e2
  have hc : w.cell? ⟨b, o + 12, none⟩ = some (.int .u8 90) := hcell 12 90 hx
  have hcp := h.cap
  have hcm := h.capm
  have HX := Lib.hid (And.intro (h.upto 12 (by omega)) (And.intro hd (And.intro h (And.intro hdk hV2))))
  have hB := hb
  have hmf : ∀ (fn : Fn) (first cap : Array Value) (w : World), (Instr.makeFunc fn first cap).run Try.prog w = .ok (.func fn first cap) w := fun _ _ _ _ => rfl
  have hB0 := Lib.hid ((Blk.new w 22 #[.slice (some ⟨b, o, none⟩) 13 c]).alloc (.cells #[.int .u16 0, .int .u8 0, .int .u8 0, .int .u8 0, .int .u8 0, .int .u8 0] 27))
  have hB1 : Hid (Blk ((w.alloc (.cells #[.slice (some ⟨b, o, none⟩) 13 c] 22)).alloc (.cells #[.int .u16 0, .int .u8 0, .int .u8 0, .int .u8 0, .int .u8 0, .int .u8 0] 27)) (w.heap.size + 1) 27 #[.int .u16 0, .int .u8 0, .int .u8 0, .int .u8 0, .int .u8 0, .int .u8 0]) := Lib.hid (by have := Blk.new (w.alloc (.cells #[.slice (some ⟨b, o, none⟩) 13 c] 22)) 27 #[.int .u16 0, .int .u8 0, .int .u8 0, .int .u8 0, .int .u8 0, .int .u8 0]; simpa using this)
  clear h hcell hx hd hV hV2 hdk hl
  go_enter Try.func102, Try.ntmps102
  go_wp2_with fail
  refine (containsFunc_any (some ⟨b, o, none⟩) 12 c (xs.take 12) w.heap.size _ ((HX.out.1.alloc (Nat.le_refl _) _).alloc (by simp) _)).mono ?_
  rintro e w' ⟨rfl, rfl⟩
  rw [HX.out.2.1]
  go_wp2_with fail
  refine (next_any (some ⟨b, o, none⟩) 13 c xs w.heap.size w.heap.size (w.heap.size + 2) 2 0 _ (((HX.out.2.2.1.alloc (Nat.le_refl _) _).alloc (by simp) _).alloc (by simp; omega) _) (by omega) ((hB0.out.alloc _).cell 0) (by omega) (by have := Blk.new ((w.alloc (.cells #[.slice (some ⟨b, o, none⟩) 13 c] 22)).alloc (.cells #[.int .u16 0, .int .u8 0, .int .u8 0, .int .u8 0, .int .u8 0, .int .u8 0] 27)) 3 #[.int .i64 0]; simpa using this) (by omega) (by omega) (by omega) (HX.out.2.2.2.1 0 2 (by omega))).mono ?_
  rintro e w1 ⟨rfl, hg1, hs1, hb1⟩
  have hdlt : Stamp.dig ((xs.drop 0).take 2) < 100 := by
    have h1 := dig_lt _ (HX.out.2.2.2.1 0 2 (by omega))
    have h2 : (10 : Nat) ^ ((xs.drop 0).take 2).length ≤ 10 ^ 2 := Nat.pow_le_pow_right (by omega) (by simp; omega)
    omega
  obtain ⟨Y, hY⟩ : ∃ Y, Stamp.dig ((xs.drop 0).take 2) = Y := ⟨_, rfl⟩
  rw [hY] at hdlt ⊢
  simp only [World.size_alloc] at hs1
  have hbw1 : Below w.heap.size w w1 := Below.grown (by (repeat (first | exact Below.refl _ _ | assumption | (refine Below.setCell ?_ (by first | omega | (simp; done) | (simp; omega)) _) | (refine Below.alloc ?_ (by first | omega | (simp; done) | (simp; omega)) _) | (refine below_drewN ?_ _) | (refine Below.drew ?_)))) hg1 (by simp; omega) (fun k e => by injection e with e; omega)
  have c0 : Blk w1 w.heap.size 22 #[.slice (some ⟨b, o, none⟩) 13 c] := (hB0.out.alloc _).grown hg1 (fun e => by injection e with e; omega)
  have c1 : Blk w1 (w.heap.size + 1) 27 #[.int .u16 0, .int .u8 0, .int .u8 0, .int .u8 0, .int .u8 0, .int .u8 0] := (hB1.out.alloc _).grown hg1 (fun e => by injection e with e; omega)
  have H1 := Lib.hid (And.intro hY (And.intro hbw1 (And.intro c0 (And.intro c1 hb1))))
  clear hY hbw1 c0 c1 hb1 hg1
  go_wp2_with fail
  refine (utc1_any Y hdlt _).mono ?_
  rintro e w2 ⟨rfl, rfl⟩
  obtain ⟨Z, hZ, hZb⟩ : ∃ Z, (if 50 ≤ Y then 1900 + Y else 2000 + Y) = Z ∧ Z < 10000 := ⟨_, rfl, by split <;> omega⟩
  rw [hZ]
  have HZ := Lib.hid hZ
  clear hZ
  go_wp2
  go_loopw [50] (fun i wr => ∃ k : Nat, k ≤ 5 ∧ i = .int .i64 k ∧ ToldI 2 (Z) (.slice (some ⟨b, o, none⟩) 13 c) xs w k wr) (fun i _ => 5 - (intOf i).toNat)
  case atStart =>
    refine ⟨0, by omega, rfl, ?_⟩
    have hh := H1.out
    refine ⟨by have := hh.2.1; (repeat (first | exact Below.refl _ _ | assumption | (refine Below.setCell ?_ (by first | omega | (simp; done) | (simp; omega)) _) | (refine Below.alloc ?_ (by first | omega | (simp; done) | (simp; omega)) _) | (refine below_drewN ?_ _) | (refine Below.drew ?_))), by simp; omega, (hh.2.2.1.alloc _).alloc _, (hh.2.2.2.1.alloc _).alloc _, ?_, ?_, ?_⟩
    · have := (hh.2.2.2.2.alloc (.cells #[.int .u16 ((Z : Nat) : Int), .int .u8 0, .int .u8 0, .int .u8 0, .int .u8 0, .int .u8 0] 27))
      simpa using this.alloc _
    · have := Blk.new w2 27 (Stamp.cells (Z) 2 xs 0)
      rw [hs1] at this
      exact this.alloc _
    · have := Blk.new (w2.alloc (.cells (Stamp.cells (Z) 2 xs 0) 27)) 151 #[.pointer (some ⟨w.heap.size + 1 + 1 + 1, 1, none⟩), .pointer (some ⟨w.heap.size + 1 + 1 + 1, 2, none⟩), .pointer (some ⟨w.heap.size + 1 + 1 + 1, 3, none⟩), .pointer (some ⟨w.heap.size + 1 + 1 + 1, 4, none⟩), .pointer (some ⟨w.heap.size + 1 + 1 + 1, 5, none⟩)]
      simp only [World.size_alloc, hs1] at this
      exact this
  case round =>
    obtain ⟨k, hk, rfl, hI⟩ := hrel
    have hs := hI.size
    by_cases hlt : k < 5
    · have hlt' : (k : Int) < 5 := by omega
      have hp : wr.cell? ⟨w.heap.size + 1 + 1 + 1 + 1, k, none⟩ = some (.pointer (some ⟨w.heap.size + 1 + 1 + 1, k + 1, none⟩)) := by
        rw [hI.b4.cell k]
        rcases k with _ | _ | _ | _ | _ | k <;> first | rfl | omega
      have hdig := HX.out.2.2.2.1 (2 + 2 * k) 2 (by omega)
      have hat := at2_lt hdig
      have HI := Lib.hid (And.intro hI hdig)
      clear hI hdig
      go_wp2_with fail
      refine (next_any (some ⟨b, o, none⟩) 13 c xs w.heap.size w.heap.size (w.heap.size + 1 + 1) 2 (2 + 2 * k) _ (HX.out.2.2.1.below HI.out.1.bel) (by omega) (HI.out.1.b0.cell 0) (by omega) HI.out.1.b2 (by omega) (by omega) (by omega) HI.out.2).mono ?_
      rintro e w3 ⟨rfl, hg3, hs3, hb3⟩
      have d3 := HI.out.1.b3.grown hg3 (fun e => by injection e with e; omega)
      have hI3 : Hid (ToldI 2 (Z) (.slice (some ⟨b, o, none⟩) 13 c) xs w (k + 1) (w3.setCell ⟨w.heap.size + 1 + 1 + 1, k + 1, none⟩ (.int .u8 (Stamp.at2 xs (2 + 2 * k) : Int)))) := Lib.hid (by
        have hI := HI.out.1
        refine ⟨(hI.bel.grown hg3 (by omega) (fun q e => by injection e with e; omega)).setCell (by dsimp only; omega) _, by simp; omega, (hI.b0.grown hg3 (fun e => by injection e with e; omega)).far (by dsimp only; omega) _, (hI.b1.grown hg3 (fun e => by injection e with e; omega)).far (by dsimp only; omega) _, ?_, ?_, (hI.b4.grown hg3 (fun e => by injection e with e; omega)).far (by show _ ≠ _; dsimp only; omega) _⟩
        · have := hb3.far (p := ⟨w.heap.size + 1 + 1 + 1, k + 1, none⟩) (by simp) (.int .u8 (Stamp.at2 xs (2 + 2 * k) : Int))
          rwa [show 2 + 2 * (k + 1) = 2 + 2 * k + 2 from by omega]
        · have := d3.set_ (k + 1) (.int .u8 (Stamp.at2 xs (2 + 2 * k) : Int))
          rwa [show (Stamp.cells (Z) 2 xs k).setIfInBounds (k + 1) (.int .u8 (Stamp.at2 xs (2 + 2 * k) : Int)) = Stamp.cells (Z) 2 xs (k + 1) from by
            rcases k with _ | _ | _ | _ | _ | k <;> first | rfl | omega] at this)
      have hc3 : w3.cell? ⟨w.heap.size + 1 + 1 + 1, k + 1, none⟩ = some (.int .u8 0) := by
        rw [d3.cell (k + 1)]
        rcases k with _ | _ | _ | _ | _ | k <;> first | rfl | omega
      have hf3 := d3.frozen (k + 1)
      have hz : Stamp.dig ((xs.drop (2 + 2 * k)).take 2) = Stamp.at2 xs (2 + 2 * k) := rfl
      rw [hz]
      obtain ⟨D, hD⟩ : ∃ D, Stamp.at2 xs (2 + 2 * k) = D := ⟨_, rfl⟩
      rw [hD] at hat hI3 ⊢
      clear hz hD d3 hb3 hg3 hp
      go_wp2
      go_roundw
      case rel => exact ⟨k + 1, by omega, by go_num, hI3.out⟩
      case measure => simp [intOf]; omega
    · obtain rfl : k = 5 := by omega
      have hge : ¬ ((5 : Nat) : Int) < 5 := by omega
      have hc3 := hI.b3.cell
      have k0 : wr.cell? ⟨w.heap.size + 1 + 1 + 1, 0, none⟩ = some (.int .u16 ((Z : Nat) : Int)) := hc3 0
      have k1 : wr.cell? ⟨w.heap.size + 1 + 1 + 1, 1, none⟩ = some (.int .u8 (Stamp.at2 xs 2 : Int)) := hc3 1
      have k2 : wr.cell? ⟨w.heap.size + 1 + 1 + 1, 2, none⟩ = some (.int .u8 (Stamp.at2 xs 4 : Int)) := hc3 2
      have k3 : wr.cell? ⟨w.heap.size + 1 + 1 + 1, 3, none⟩ = some (.int .u8 (Stamp.at2 xs 6 : Int)) := hc3 3
      have k4 : wr.cell? ⟨w.heap.size + 1 + 1 + 1, 4, none⟩ = some (.int .u8 (Stamp.at2 xs 8 : Int)) := hc3 4
      have k5 : wr.cell? ⟨w.heap.size + 1 + 1 + 1, 5, none⟩ = some (.int .u8 (Stamp.at2 xs 10 : Int)) := hc3 5
      have hmo := at2_lt (HX.out.2.2.2.1 2 2 (by omega))
      have htm : Stamp.tm 2 Stamp.year2 xs = ⟨Z, Stamp.at2 xs 2, Stamp.at2 xs 4, Stamp.at2 xs 6, Stamp.at2 xs 8, Stamp.at2 xs 10⟩ := by
        unfold Stamp.tm
        rw [H1.out.1, show Stamp.year2 Y = Z from HZ.out]
      have HT := Lib.hid (And.intro htm hI)
      clear hI hc3 htm
      go_wp2_with fail
      refine (right_any ⟨Z, Stamp.at2 xs 2, Stamp.at2 xs 4, Stamp.at2 xs 6, Stamp.at2 xs 8, Stamp.at2 xs 10⟩ _ (by dsimp only; omega) (Nat.lt_trans hmo (by omega))).mono ?_
      rintro e w3 ⟨rfl, hb3⟩
      rw [← HT.out.1]
      have hI := HT.out.2
      have hV := HX.out.2.2.2.2
      have hbw3 := hI.bel.trans (hb3.mono (by omega))
      have j0 : w3.cell? ⟨w.heap.size + 1 + 1 + 1, 0, none⟩ = _ := (hb3.cell (p := ⟨w.heap.size + 1 + 1 + 1, 0, none⟩) (by simp; omega)).trans k0
      have j1 : w3.cell? ⟨w.heap.size + 1 + 1 + 1, 1, none⟩ = _ := (hb3.cell (p := ⟨w.heap.size + 1 + 1 + 1, 1, none⟩) (by simp; omega)).trans k1
      have j2 : w3.cell? ⟨w.heap.size + 1 + 1 + 1, 2, none⟩ = _ := (hb3.cell (p := ⟨w.heap.size + 1 + 1 + 1, 2, none⟩) (by simp; omega)).trans k2
      have j3 : w3.cell? ⟨w.heap.size + 1 + 1 + 1, 3, none⟩ = _ := (hb3.cell (p := ⟨w.heap.size + 1 + 1 + 1, 3, none⟩) (by simp; omega)).trans k3
      have j4 : w3.cell? ⟨w.heap.size + 1 + 1 + 1, 4, none⟩ = _ := (hb3.cell (p := ⟨w.heap.size + 1 + 1 + 1, 4, none⟩) (by simp; omega)).trans k4
      have j5 : w3.cell? ⟨w.heap.size + 1 + 1 + 1, 5, none⟩ = _ := (hb3.cell (p := ⟨w.heap.size + 1 + 1 + 1, 5, none⟩) (by simp; omega)).trans k5
      have e1 := hI.b1.below hb3 (by omega)
      obtain ⟨q0, q1⟩ := e1.facts
      have H3 := Lib.hid (And.intro hbw3 (And.intro hV e1))
      clear hI hV hbw3 hb3 e1
      cases hr : Stamp.right (Stamp.tm 2 Stamp.year2 xs) with
      | false =>
        have HR := Lib.hid hr
        clear hr
        go_wp2
        have e1 := H3.out.2.2
        have e2 := ((((((e1.set_ 0 (.int .u16 0)).set_ 1 (.int .u8 0)).set_ 2 (.int .u8 0)).set_ 3 (.int .u8 0)).set_ 4 (.int .u8 0)).set_ 5 (.int .u8 0))
        have hld := load_time _ _ _ _ _ _ _ _ e2
        refine bodyPost_ret (results_cell_tmp rfl _ _ _ _ _ rfl hld) rfl ?_
        have hbw := H3.out.1
        exact ⟨((((((hbw.setCell (by dsimp only; omega) _).setCell (by dsimp only; omega) _).setCell (by dsimp only; omega) _).setCell (by dsimp only; omega) _).setCell (by dsimp only; omega) _).setCell (by dsimp only; omega) _), .inl ⟨by rw [← H3.out.2.1, HR.out]; rfl, rfl⟩⟩
      | true =>
        have HR := Lib.hid hr
        clear hr
        go_wp2
        have e1 := H3.out.2.2
        have e2 := ((((((e1.set_ 0 (.int .u16 ((Z : Nat) : Int))).set_ 1 (.int .u8 (Stamp.at2 xs 2 : Int))).set_ 2 (.int .u8 (Stamp.at2 xs 4 : Int))).set_ 3 (.int .u8 (Stamp.at2 xs 6 : Int))).set_ 4 (.int .u8 (Stamp.at2 xs 8 : Int))).set_ 5 (.int .u8 (Stamp.at2 xs 10 : Int)))
        have hld := load_time _ _ _ _ _ _ _ _ e2
        refine bodyPost_ret (results_cell_tmp rfl _ _ _ _ _ rfl hld) rfl ?_
        have hbw := H3.out.1
        exact ⟨((((((hbw.setCell (by dsimp only; omega) _).setCell (by dsimp only; omega) _).setCell (by dsimp only; omega) _).setCell (by dsimp only; omega) _).setCell (by dsimp only; omega) _).setCell (by dsimp only; omega) _), .inr ⟨Stamp.tm 2 Stamp.year2 xs, by rw [← H3.out.2.1, HR.out]; rfl, by rw [HT.out.1]; rfl⟩⟩

theorem told2_any (A : Option Addr) (m c : Nat) (xs : List UInt8) (w : World) (h : Rd w w.heap.size A m c xs) :
    Calls Try.prog 102 #[.slice A m c, .int .i64 2, .func (.func 104) #[] #[]] w (ToldPost (Stamp.told 2 Stamp.year2 xs) w) := by
  by_cases hl : m = 13
  · subst hl
    obtain ⟨b, o, rfl, _, _⟩ := h.at_ (by omega)
    have hlen := h.len
    obtain ⟨x, hx⟩ : ∃ x, xs[12]? = some x := ⟨_, List.getElem?_eq_getElem (by omega)⟩
    by_cases hz : x = 90
    · subst hz
      cases hd : (xs.take 12).any notDig with
      | true => exact told2_dig b o c xs w h hx hd
      | false => exact told2_main b o c xs w h hx hd
    · exact told2_last b o c x xs w h hx hz
  · exact told2_len A m c xs w h hl
end Go.Proofs.Ytmnekhliblkibaa
end

section
/- The contracts of stamp.General, stamp.Utc, stamp.parts, stamp.Less. -/
namespace Go.Proofs.Ytmnekhliblkibaa
open Go.RowKit
set_option maxRecDepth 100000
set_option linter.unusedVariables false
set_option linter.unusedSimpArgs false

theorem general_any (A : Option Addr) (m c : Nat) (xs : List UInt8) (w : World) (h : Rd w w.heap.size A m c xs) :
    Calls Try.prog 87 #[.slice A m c] w (ToldPost (Stamp.told 4 id xs) w) := by
  have hb0 := Blk.new w 27 #[.int .u16 0, .int .u8 0, .int .u8 0, .int .u8 0, .int .u8 0, .int .u8 0]
  go_enter Try.func87, Try.ntmps87
  go_wp2_with fail
  refine (told4_any A m c xs _ ((h.alloc (Nat.le_refl _) _).more (by simp))).mono ?_
  rintro e w1 ⟨hb1, ⟨ho, rfl⟩ | ⟨⟨y, mo, d, hh, mi, s⟩, ho, rfl⟩⟩
  · simp only [World.size_alloc] at hb1
    have hbw : Below w.heap.size w w1 := Below.trans (by (repeat (first | exact Below.refl _ _ | assumption | (refine Below.setCell ?_ (by first | omega | (simp; done) | (simp; omega)) _) | (refine Below.alloc ?_ (by first | omega | (simp; done) | (simp; omega)) _) | (refine below_drewN ?_ _) | (refine Below.drew ?_)))) (hb1.mono (by omega))
    have e1 := hb0.below hb1 (by omega)
    obtain ⟨q0, q1⟩ := e1.facts
    have H1 := Lib.hid (And.intro ho (And.intro hbw e1))
    clear ho hbw e1 hb1 hb0 h
    dsimp only [Tm.v, Tm.zero]
    go_wp2
    have e2 := ((((((H1.out.2.2.set_ 0 (.int .u16 0)).set_ 1 (.int .u8 0)).set_ 2 (.int .u8 0)).set_ 3 (.int .u8 0)).set_ 4 (.int .u8 0)).set_ 5 (.int .u8 0))
    have hld := load_time _ _ _ _ _ _ _ _ e2
    refine bodyPost_ret (results_cell_tmp rfl _ _ _ _ _ rfl hld) rfl ?_
    have hbw := H1.out.2.1
    exact ⟨((((((hbw.setCell (by dsimp only; omega) _).setCell (by dsimp only; omega) _).setCell (by dsimp only; omega) _).setCell (by dsimp only; omega) _).setCell (by dsimp only; omega) _).setCell (by dsimp only; omega) _), .inl ⟨H1.out.1, rfl⟩⟩
  · simp only [World.size_alloc] at hb1
    have hbw : Below w.heap.size w w1 := Below.trans (by (repeat (first | exact Below.refl _ _ | assumption | (refine Below.setCell ?_ (by first | omega | (simp; done) | (simp; omega)) _) | (refine Below.alloc ?_ (by first | omega | (simp; done) | (simp; omega)) _) | (refine below_drewN ?_ _) | (refine Below.drew ?_)))) (hb1.mono (by omega))
    have e1 := hb0.below hb1 (by omega)
    obtain ⟨q0, q1⟩ := e1.facts
    have H1 := Lib.hid (And.intro ho (And.intro hbw e1))
    clear ho hbw e1 hb1 hb0 h
    dsimp only [Tm.v]
    go_wp2
    have e2 := ((((((H1.out.2.2.set_ 0 (.int .u16 (y : Int))).set_ 1 (.int .u8 (mo : Int))).set_ 2 (.int .u8 (d : Int))).set_ 3 (.int .u8 (hh : Int))).set_ 4 (.int .u8 (mi : Int))).set_ 5 (.int .u8 (s : Int)))
    have hld := load_time _ _ _ _ _ _ _ _ e2
    refine bodyPost_ret (results_cell_tmp rfl _ _ _ _ _ rfl hld) rfl ?_
    have hbw := H1.out.2.1
    exact ⟨((((((hbw.setCell (by dsimp only; omega) _).setCell (by dsimp only; omega) _).setCell (by dsimp only; omega) _).setCell (by dsimp only; omega) _).setCell (by dsimp only; omega) _).setCell (by dsimp only; omega) _), .inr ⟨_, H1.out.1, rfl⟩⟩

theorem utc_any (A : Option Addr) (m c : Nat) (xs : List UInt8) (w : World) (h : Rd w w.heap.size A m c xs) :
    Calls Try.prog 88 #[.slice A m c] w (ToldPost (Stamp.told 2 Stamp.year2 xs) w) := by
  have hb0 := Blk.new w 27 #[.int .u16 0, .int .u8 0, .int .u8 0, .int .u8 0, .int .u8 0, .int .u8 0]
  go_enter Try.func88, Try.ntmps88
  go_wp2_with fail
  refine (told2_any A m c xs _ ((h.alloc (Nat.le_refl _) _).more (by simp))).mono ?_
  rintro e w1 ⟨hb1, ⟨ho, rfl⟩ | ⟨⟨y, mo, d, hh, mi, s⟩, ho, rfl⟩⟩
  · simp only [World.size_alloc] at hb1
    have hbw : Below w.heap.size w w1 := Below.trans (by (repeat (first | exact Below.refl _ _ | assumption | (refine Below.setCell ?_ (by first | omega | (simp; done) | (simp; omega)) _) | (refine Below.alloc ?_ (by first | omega | (simp; done) | (simp; omega)) _) | (refine below_drewN ?_ _) | (refine Below.drew ?_)))) (hb1.mono (by omega))
    have e1 := hb0.below hb1 (by omega)
    obtain ⟨q0, q1⟩ := e1.facts
    have H1 := Lib.hid (And.intro ho (And.intro hbw e1))
    clear ho hbw e1 hb1 hb0 h
    dsimp only [Tm.v, Tm.zero]
    go_wp2
    have e2 := ((((((H1.out.2.2.set_ 0 (.int .u16 0)).set_ 1 (.int .u8 0)).set_ 2 (.int .u8 0)).set_ 3 (.int .u8 0)).set_ 4 (.int .u8 0)).set_ 5 (.int .u8 0))
    have hld := load_time _ _ _ _ _ _ _ _ e2
    refine bodyPost_ret (results_cell_tmp rfl _ _ _ _ _ rfl hld) rfl ?_
    have hbw := H1.out.2.1
    exact ⟨((((((hbw.setCell (by dsimp only; omega) _).setCell (by dsimp only; omega) _).setCell (by dsimp only; omega) _).setCell (by dsimp only; omega) _).setCell (by dsimp only; omega) _).setCell (by dsimp only; omega) _), .inl ⟨H1.out.1, rfl⟩⟩
  · simp only [World.size_alloc] at hb1
    have hbw : Below w.heap.size w w1 := Below.trans (by (repeat (first | exact Below.refl _ _ | assumption | (refine Below.setCell ?_ (by first | omega | (simp; done) | (simp; omega)) _) | (refine Below.alloc ?_ (by first | omega | (simp; done) | (simp; omega)) _) | (refine below_drewN ?_ _) | (refine Below.drew ?_)))) (hb1.mono (by omega))
    have e1 := hb0.below hb1 (by omega)
    obtain ⟨q0, q1⟩ := e1.facts
    have H1 := Lib.hid (And.intro ho (And.intro hbw e1))
    clear ho hbw e1 hb1 hb0 h
    dsimp only [Tm.v]
    go_wp2
    have e2 := ((((((H1.out.2.2.set_ 0 (.int .u16 (y : Int))).set_ 1 (.int .u8 (mo : Int))).set_ 2 (.int .u8 (d : Int))).set_ 3 (.int .u8 (hh : Int))).set_ 4 (.int .u8 (mi : Int))).set_ 5 (.int .u8 (s : Int)))
    have hld := load_time _ _ _ _ _ _ _ _ e2
    refine bodyPost_ret (results_cell_tmp rfl _ _ _ _ _ rfl hld) rfl ?_
    have hbw := H1.out.2.1
    exact ⟨((((((hbw.setCell (by dsimp only; omega) _).setCell (by dsimp only; omega) _).setCell (by dsimp only; omega) _).setCell (by dsimp only; omega) _).setCell (by dsimp only; omega) _).setCell (by dsimp only; omega) _), .inr ⟨_, H1.out.1, rfl⟩⟩
end Go.Proofs.Ytmnekhliblkibaa
end

section
/- The contracts of cmp.Compare, slices.Compare at numbers of 16 bits. -/
namespace Go.Proofs.Ytmnekhliblkibaa
open Go.RowKit
set_option maxRecDepth 100000
set_option linter.unusedVariables false
set_option linter.unusedSimpArgs false

def u16v (x : Nat) : Value := .int .u16 (x : Int)
/-- The first of two rows of one length is ahead. -/
def lexLt : List Nat → List Nat → Bool
  | x :: xs, y :: ys => if x = y then lexLt xs ys else decide (x < y)
  | _, _ => false
theorem lexLt_at : ∀ (xs ys : List Nat) (k : Nat) (x y : Nat), xs.take k = ys.take k → xs[k]? = some x → ys[k]? = some y → x ≠ y → lexLt xs ys = decide (x < y)
  | [], _, _, _, _, _, h, _, _ => by simp at h
  | _ :: _, [], _, _, _, _, _, h, _ => by simp at h
  | a :: xs, b :: ys, 0, x, y, _, hx, hy, hne => by
    simp at hx hy
    subst hx hy
    simp [lexLt, hne]
  | a :: xs, b :: ys, k + 1, x, y, ht, hx, hy, hne => by
    simp only [List.take_succ_cons, List.cons.injEq] at ht
    simp only [List.getElem?_cons_succ] at hx hy
    simp only [lexLt, if_pos ht.1]
    exact lexLt_at xs ys k x y ht.2 hx hy hne
theorem lexLt_self : ∀ xs : List Nat, lexLt xs xs = false
  | [] => rfl
  | x :: xs => by simp [lexLt, lexLt_self xs]

theorem isNaN_any (x : Nat) (w : World) : Calls Try.prog 116 #[.int .u16 (x : Int)] w fun e w' => e = .returned (.bool false) ∧ w' = w := by
  have hx : ((x : Int) != x) = false := by simp
  go_enter Try.func116, Try.ntmps116
  go_wp2
  go_ret
  exact ⟨rfl, rfl⟩
theorem cmp16_any (x y : Nat) (w : World) : Calls Try.prog 105 #[.int .u16 (x : Int), .int .u16 (y : Int)] w fun e w' => e = .returned (.int .i64 (if x < y then -1 else if y < x then 1 else 0)) ∧ w' = w := by
  by_cases h1 : x < y
  · rw [if_pos h1]
    have h1' : (x : Int) < y := by omega
    go_enter Try.func105, Try.ntmps105
    go_wp2_with ((first | (refine (isNaN_any x _).mono ?_; rintro e w' ⟨rfl, rfl⟩) | (refine (isNaN_any y _).mono ?_; rintro e w' ⟨rfl, rfl⟩)))
    go_ret
    exact ⟨rfl, rfl⟩
  · rw [if_neg h1]
    have h1' : ¬ (x : Int) < y := by omega
    by_cases h2 : y < x
    · rw [if_pos h2]
      have h2' : (y : Int) < x := by omega
      go_enter Try.func105, Try.ntmps105
      go_wp2_with ((first | (refine (isNaN_any x _).mono ?_; rintro e w' ⟨rfl, rfl⟩) | (refine (isNaN_any y _).mono ?_; rintro e w' ⟨rfl, rfl⟩)))
      go_ret
      exact ⟨rfl, rfl⟩
    · rw [if_neg h2]
      have h2' : ¬ (y : Int) < x := by omega
      go_enter Try.func105, Try.ntmps105
      go_wp2_with ((first | (refine (isNaN_any x _).mono ?_; rintro e w' ⟨rfl, rfl⟩) | (refine (isNaN_any y _).mono ?_; rintro e w' ⟨rfl, rfl⟩)))
      go_ret
      exact ⟨rfl, rfl⟩

theorem reads_get16 {w : World} {B n k : Nat} {A : Option Addr} {xs : List Nat} (h : Reads w B 1 A n (xs.map u16v)) (hl : xs.length = n) (hk : k < n) :
    ∃ b o x, A = some ⟨b, o, none⟩ ∧ xs[k]? = some x ∧ w.cell? ⟨b, o + k, none⟩ = some (.int .u16 (x : Int)) := by
  obtain ⟨ad, u, e, hb, hx, hc⟩ := h.at_ hk
  obtain ⟨ad0, u0, e0, _, _, hc0⟩ := h.at_ (k := 0) (by omega)
  rw [e] at e0
  injection e0 with e0
  subst e0
  obtain ⟨b, o, s⟩ := ad
  obtain rfl : s = none := by simpa [Addr.add] using World.cell?_spot hc0
  rw [Addr.add_lit] at hc
  have hlt : k < xs.length := by omega
  refine ⟨b, o, xs[k], e, List.getElem?_eq_getElem hlt, ?_⟩
  rw [hc]
  simp [hlt] at hx
  rw [← hx]
  rfl

theorem compare16_any (A A' : Option Addr) (n c c' : Nat) (xs ys : List Nat) (B B' : Nat) (w : World) (h : Reads w B 1 A n (xs.map u16v)) (h' : Reads w B' 1 A' n (ys.map u16v)) (hm : n ≤ 100) :
    Calls Try.prog 90 #[.slice A n c, .slice A' n c'] w fun e w' => w' = w ∧ ∃ z : Int, e = .returned (.int .i64 z) ∧ decide (z < 0) = lexLt xs ys := by
  have hl : xs.length = n := by simpa using h.1
  have hl' : ys.length = n := by simpa using h'.1
  have HX := Lib.hid (And.intro h (And.intro h' (And.intro hl hl')))
  obtain ⟨q, hq⟩ : ∃ q, lexLt xs ys = q := ⟨_, rfl⟩
  rw [hq]
  have HQ := Lib.hid hq
  clear h h' hl hl' hq
  go_enter Try.func90, Try.ntmps90
  go_wp2
  go_loopw [11] (fun i wr => ∃ k : Nat, k ≤ n ∧ i = .int .i64 k ∧ wr = w ∧ xs.take k = ys.take k) (fun i _ => n - (intOf i).toNat)
  case atStart => exact ⟨0, Nat.zero_le _, rfl, rfl, rfl⟩
  case round =>
    obtain ⟨k, hk, rfl, rfl, ht⟩ := hrel
    by_cases hlt : k < n
    · have hlt' : (k : Int) < n := by omega
      have hge' : ¬ (n : Int) ≤ k := by omega
      obtain ⟨b, o, x, rfl, hx, hc⟩ := reads_get16 HX.out.1 HX.out.2.2.1 hlt
      obtain ⟨b', o', y, rfl, hy, hc'⟩ := reads_get16 HX.out.2.1 HX.out.2.2.2 hlt
      have HT := Lib.hid (And.intro ht (And.intro hx hy))
      clear ht hx hy
      go_wp2_with fail
      refine (cmp16_any x y _).mono ?_
      rintro e w' ⟨rfl, rfl⟩
      by_cases hxy : x = y
      · subst hxy
        rw [if_neg (by omega), if_neg (by omega)]
        go_wp2
        go_roundw
        case rel => exact ⟨k + 1, by omega, by go_num, trivial, by rw [List.take_add_one, List.take_add_one, HT.out.1, HT.out.2.1, HT.out.2.2]⟩
        case measure => simp [intOf]; omega
      · have hat := lexLt_at xs ys k x y HT.out.1 HT.out.2.1 HT.out.2.2 hxy
        have HA := Lib.hid (hat.symm.trans HQ.out)
        clear hat
        by_cases hlt2 : x < y
        · rw [if_pos hlt2]
          go_wp2
          go_ret
          exact ⟨rfl, -1, rfl, by rw [← HA.out]; simp [hlt2]⟩
        · rw [if_neg hlt2, if_pos (by omega)]
          go_wp2
          go_ret
          exact ⟨rfl, 1, rfl, by rw [← HA.out]; simp [hlt2]⟩
    · obtain rfl : n = k := by omega
      have hge : ¬ (n : Int) < n := by omega
      have HT := Lib.hid ht
      clear ht
      go_wp2
      go_ret
      have e := HT.out
      rw [List.take_of_length_le (by have := HX.out.2.2.1; omega), List.take_of_length_le (by have := HX.out.2.2.2; omega)] at e
      subst e
      exact ⟨rfl, 0, rfl, by rw [← HQ.out, lexLt_self]; rfl⟩
end Go.Proofs.Ytmnekhliblkibaa
end

section
/- The contracts of stamp.parts, stamp.Less. -/
namespace Go.Proofs.Ytmnekhliblkibaa
open Go.RowKit
set_option maxRecDepth 100000
set_option linter.unusedVariables false
set_option linter.unusedSimpArgs false

def Tm.parts (t : Tm) : List Nat := [t.y, t.mo, t.d, t.h, t.mi, t.s]
theorem load_six (w : World) (b : Nat) (v0 v1 v2 v3 v4 v5 : Value) (h : Blk w b 130 #[v0, v1, v2, v3, v4, v5]) : (loadVar 130 ⟨b, 0, none⟩).run Try.prog w = .ok (.agg #[v0, v1, v2, v3, v4, v5]) w := by
  obtain ⟨k, _⟩ := h.facts
  have k0 := k 0
  have k1 := k 1
  have k2 := k 2
  have k3 := k 3
  have k4 := k 4
  have k5 := k 5
  simp only [List.getElem?_toArray, List.getElem?_cons_zero, List.getElem?_cons_succ] at k0 k1 k2 k3 k4 k5
  clear k h
  simp [go_sem, k0, k1, k2, k3, k4, k5]

theorem parts6_any (y mo d h mi s : Nat) (hmo : mo < 256) (hd : d < 256) (hh : h < 256) (hmi : mi < 256) (hs : s < 256) (w : World) :
    Calls Try.prog 89 #[.agg #[.int .u16 (y : Int), .int .u8 (mo : Int), .int .u8 (d : Int), .int .u8 (h : Int), .int .u8 (mi : Int), .int .u8 (s : Int)]] w fun e w' => e = .returned (.agg #[.int .u16 (y : Int), .int .u16 (mo : Int), .int .u16 (d : Int), .int .u16 (h : Int), .int .u16 (mi : Int), .int .u16 (s : Int)]) ∧ w' = (w.alloc (.cells #[.int .u16 (y : Int), .int .u8 (mo : Int), .int .u8 (d : Int), .int .u8 (h : Int), .int .u8 (mi : Int), .int .u8 (s : Int)] 27)).alloc (.cells #[.int .u16 (y : Int), .int .u16 (mo : Int), .int .u16 (d : Int), .int .u16 (h : Int), .int .u16 (mi : Int), .int .u16 (s : Int)] 130) := by

  go_enter Try.func89, Try.ntmps89
  go_wp2
  have hb : ∀ W : World, W.heap.size = w.heap.size + 1 → Blk (W.alloc (.cells #[.int .u16 (y : Int), .int .u16 (mo : Int), .int .u16 (d : Int), .int .u16 (h : Int), .int .u16 (mi : Int), .int .u16 (s : Int)] 130)) (w.heap.size + 1) 130 #[.int .u16 (y : Int), .int .u16 (mo : Int), .int .u16 (d : Int), .int .u16 (h : Int), .int .u16 (mi : Int), .int .u16 (s : Int)] := fun W hW => by rw [← hW]; exact Blk.new _ _ _
  have hld := load_six _ _ _ _ _ _ _ _ (hb (w.alloc (.cells #[.int .u16 (y : Int), .int .u8 (mo : Int), .int .u8 (d : Int), .int .u8 (h : Int), .int .u8 (mi : Int), .int .u8 (s : Int)] 27)) (by simp))
  refine bodyPost_ret (results_cell rfl _ _ _ _ _ rfl hld) rfl ?_
  exact ⟨rfl, rfl⟩
end Go.Proofs.Ytmnekhliblkibaa
end
