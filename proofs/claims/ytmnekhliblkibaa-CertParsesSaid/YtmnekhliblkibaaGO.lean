/- Joined of: RefName Ref11 Ref11b Same RefInt PlainInt. -/
import Derived.Test.YtmnekhliblkibaaGN
import Derived.Test.YtmnekhliblkibaaGF
import Derived.BigQuiet
import Derived.Deep.QuietTactic
import Derived.Test.YtmnekhliblkibaaGJ
import Derived.Test.YtmnekhliblkibaaGD
import Derived.Test.YtmnekhliblkibaaGA
import Derived.Test.YtmnekhliblkibaaGC
import Derived.Test.YtmnekhliblkibaaGM
section
/- The contracts of the law's short and Name. -/
namespace Go.Proofs.Ytmnekhliblkibaa
open Go.RowKit
set_option maxRecDepth 100000
set_option linter.unusedVariables false
set_option linter.unusedSimpArgs false

theorem Rd.pre {w : World} {B n c : Nat} {A : Option Addr} {xs : List UInt8} (h : Rd w B A n c xs) (m : Nat) (hm : m ≤ n) : Rd w B A m c (xs.take m) := by
  refine ⟨by rw [List.length_take, h.len]; omega, by have := h.cap; omega, h.capm, h.nil, h.spot, by rw [List.length_map, List.length_take, h.len]; omega, fun h0 => ?_⟩
  obtain ⟨ad, e, hb, hc⟩ := h.rds.2 (by omega)
  refine ⟨ad, e, hb, fun j u hu => hc j u ?_⟩
  rw [List.getElem?_map] at hu ⊢
  rw [List.getElem?_take] at hu
  split at hu
  · exact hu
  · cases hu
set_option maxHeartbeats 1000000 in
theorem short_any (k : Nat) (A : Option Addr) (n c : Nat) (xs : List UInt8) (w : World) (h : Rd w w.heap.size A n c xs) (hk : k ≤ 1000) (hn : n ≤ 9223372036854775807) :
    Calls Try.prog 51 #[.slice A n c, .int .i64 (k : Int)] w (RetOwn (xs.take k) w) := by
  have hc := h.cap
  have hcm := h.capm
  have hni := h.nil
  have HL := Lib.hid h.len
  rcases Nat.lt_or_ge k n with hlt | hge
  · have hmin : min (n : Int) (k : Int) = (k : Int) := by omega
    have hp := h.pre k (by omega)
    obtain ⟨b0, o0, rfl, _⟩ := h.spot (by omega)
    have HP := Lib.hid hp
    clear hp h hni
    go_enter Try.func51, Try.ntmps51
    go_wp2_with fail
    refine (copy_any _ _ _ _ _ HP.out (by omega)).mono ?_
    rintro en w1 ⟨A1, n1, c1, rfl, ho1, hb1⟩
    have H1 := Lib.hid (And.intro ho1 hb1)
    clear ho1 hb1
    go_wp2
    go_ret
    exact ⟨A1, n1, c1, rfl, H1.out.1, H1.out.2⟩
  · have hmin : min (n : Int) (k : Int) = (n : Int) := by omega
    have ht : xs.take k = xs := List.take_of_length_le (by have := h.len; omega)
    rw [ht]
    have HP := Lib.hid h
    clear ht h
    cases A with
    | none =>
      obtain rfl := hni rfl
      obtain rfl : n = 0 := by omega
      go_enter Try.func51, Try.ntmps51
      go_wp2_with fail
      refine (copy_any _ _ _ _ _ HP.out (by omega)).mono ?_
      rintro en w1 ⟨A1, n1, c1, rfl, ho1, hb1⟩
      have H1 := Lib.hid (And.intro ho1 hb1)
      clear ho1 hb1
      go_wp2
      go_ret
      exact ⟨A1, n1, c1, rfl, H1.out.1, H1.out.2⟩
    | some ad =>
      go_enter Try.func51, Try.ntmps51
      go_wp2_with fail
      refine (copy_any _ _ _ _ _ HP.out (by omega)).mono ?_
      rintro en w1 ⟨A1, n1, c1, rfl, ho1, hb1⟩
      have H1 := Lib.hid (And.intro ho1 hb1)
      clear ho1 hb1
      go_wp2
      go_ret
      exact ⟨A1, n1, c1, rfl, H1.out.1, H1.out.2⟩

def Ref.name (s : List UInt8) : List UInt8 := Ref.seq [Der.write 49 (Ref.seq [Der.write 6 [85, 4, 3], Der.write 12 s])]
set_option maxHeartbeats 1000000 in
theorem name_any (s : List UInt8) (w : World) (hs : s.length ≤ 1000) :
    Calls Try.prog 52 #[.string ⟨s.toArray⟩] w (RetOwn (Ref.name s) w) := by
  have hst := fun W => run_str W s
  have hsw := fun W => str_size W s
  go_enter Try.func52, Try.ntmps52
  go_wp2_with fail
  refine (refWrite_lit 6 6 rfl _ 3 3 [85, 4, 3] _ (Rd.lit w 5 [85, 4, 3] [.int .u8 85, .int .u8 4, .int .u8 3] _ 3 rfl rfl rfl (by omega)) (by omega)).mono ?_
  rintro en w1 ⟨A1, n1, c1, rfl, ho1, hb1⟩
  have hb1' : Below w.heap.size w w1 := Below.trans ((Below.refl _ _).alloc (Nat.le_refl _) _) (hb1.mono (by simp))
  have hs1 := hb1'.size
  have H1 := Lib.hid (And.intro ho1 hb1')
  clear ho1 hb1 hb1'
  have HS := Lib.hid (And.intro (str_below w1 s) (str_rd w1 s (by omega)))
  go_wp2_with fail
  refine (refWrite_lit 12 12 rfl _ _ _ s _ HS.out.2 (by omega)).mono ?_
  rintro en w2 ⟨A2, n2, c2, rfl, ho2, hb2⟩
  have hb2' : Below w1.heap.size w1 w2 := HS.out.1.trans (hb2.mono HS.out.1.size)
  have hs2 := hb2'.size
  have H2 := Lib.hid (And.intro ho2 hb2')
  clear ho2 hb2 hb2'
  go_wp2_with fail
  refine (refSeq_any _ 2 2 [(.slice A1 n1 c1, Der.write 6 [85, 4, 3]), (.slice A2 n2 c2, Der.write 12 s)] _ (rdl2 w2 _ _ _ _ (RdV.mk (H1.out.1.rdx.up H2.out.2)) (RdV.mk H2.out.1.rdx)) (by omega) ?_).mono ?_
  · rw [cat2]
    have h1 := write_bound 6 [85, 4, 3] (by simp)
    have h2 := write_bound 12 s (by omega)
    simp at h1
    omega
  rintro en w3 ⟨A3, n3, c3, rfl, ho3, hb3⟩
  have hb3' : Below w2.heap.size w2 w3 := Below.trans ((Below.refl _ _).alloc (Nat.le_refl _) _) (hb3.mono (by simp))
  have hs3 := hb3'.size
  have hn3 : (Ref.seq [Der.write 6 [85, 4, 3], Der.write 12 s]).length = n3 := ownB_len ho3
  have hn3' : n3 ≤ 1100 := by
    have h1 := write_bound 6 [85, 4, 3] (by simp)
    have h2 := write_bound 12 s (by omega)
    have h3 := seq2_len (Der.write 6 [85, 4, 3]) (Der.write 12 s) 1015 (by simp at h1; omega) (by omega)
    omega
  have H3 := Lib.hid (And.intro ho3 hb3')
  clear ho3 hb3 hb3' hn3
  go_wp2_with fail
  refine (refWrite_lit 49 49 rfl A3 n3 c3 _ _ H3.out.1.rdx (by omega)).mono ?_
  rintro en w4 ⟨A4, n4, c4, rfl, ho4, hb4⟩
  have hs4 := hb4.size
  have hn4 : (Der.write 49 (Ref.seq [Der.write 6 [85, 4, 3], Der.write 12 s])).length = n4 := ownB_len ho4
  have hn4' : n4 ≤ 1200 := by
    have h0 := ownB_len H3.out.1
    have h1 := write_bound 49 (Ref.seq [Der.write 6 [85, 4, 3], Der.write 12 s]) (by have : (Ref.seq [Der.write 6 [85, 4, 3], Der.write 12 s]).length = n3 := h0; omega)
    have : (Ref.seq [Der.write 6 [85, 4, 3], Der.write 12 s]).length = n3 := h0
    omega
  have H4 := Lib.hid (And.intro ho4 (And.intro hb4 hn4))
  clear ho4 hb4 hn4
  go_wp2_with fail
  refine (refSeq_any _ 1 1 [(.slice A4 n4 c4, Der.write 49 (Ref.seq [Der.write 6 [85, 4, 3], Der.write 12 s]))] _ (RdL.lit w4 _ _ _ _ 1 rfl rfl rfl (by omega) (fun v xs hm => ?_)) (by omega) ?_).mono ?_
  · simp only [List.mem_cons, List.not_mem_nil, or_false, Prod.mk.injEq] at hm
    obtain ⟨rfl, rfl⟩ := hm
    exact RdV.mk H4.out.1.rdx
  · have := H4.out.2.2
    simp only [cat, List.map_cons, List.map_nil, List.flatten_cons, List.flatten_nil, List.append_nil]
    omega
  rintro en w5 ⟨A5, n5, c5, rfl, ho5, hb5⟩
  have H5 := Lib.hid (And.intro ho5 hb5)
  clear ho5 hb5
  go_wp2
  go_ret
  exact ⟨A5, n5, c5, rfl, H5.out.1.mono (by simp; omega) (Nat.le_refl _), ((H1.out.2.trans (H2.out.2.mono hs1)).trans ((H3.out.2.mono (by omega)).trans (H4.out.2.1.mono (by omega)))).trans (Below.trans ((Below.refl _ _).alloc (by omega) _) (H5.out.2.mono (by simp; omega)))⟩
end Go.Proofs.Ytmnekhliblkibaa
end

section
/- The contracts of the reference's days, Right. -/
namespace Go.Proofs.Ytmnekhliblkibaa
open Go.RowKit
set_option maxRecDepth 100000
set_option linter.unusedVariables false
set_option linter.unusedSimpArgs false

theorem rdays_big (y m : Nat) (w : World) (hm : 13 ≤ m) : Calls Try.prog 55 #[.int .i64 (y : Int), .int .i64 (m : Int)] w fun e w' => e = .returned (.int .i64 (Stamp.days y m : Int)) ∧ w' = w := by
  have hd : Stamp.days y m = 0 := by
    unfold Stamp.days
    rw [if_neg (by omega), List.getD_eq_getElem?_getD, List.getElem?_eq_none (by simp; omega)]
    rfl
  rw [hd]
  have e1 : ((m : Int) == 1) = false := by simp; omega
  have e2 : ((m : Int) == 2) = false := by simp; omega
  have e3 : ((m : Int) == 3) = false := by simp; omega
  have e4 : ((m : Int) == 4) = false := by simp; omega
  have e5 : ((m : Int) == 5) = false := by simp; omega
  have e6 : ((m : Int) == 6) = false := by simp; omega
  have e7 : ((m : Int) == 7) = false := by simp; omega
  have e8 : ((m : Int) == 8) = false := by simp; omega
  have e9 : ((m : Int) == 9) = false := by simp; omega
  have e10 : ((m : Int) == 10) = false := by simp; omega
  have e11 : ((m : Int) == 11) = false := by simp; omega
  have e12 : ((m : Int) == 12) = false := by simp; omega
  clear hd hm
  go_enter Try.func55, Try.ntmps55
  go_wp2
  go_ret
  exact ⟨rfl, rfl⟩

theorem rdays_0 (y : Nat) (w : World) : Calls Try.prog 55 #[.int .i64 (y : Int), .int .i64 0] w fun e w' => e = .returned (.int .i64 0) ∧ w' = w := by
  go_enter Try.func55, Try.ntmps55
  go_wp2
  go_ret
  exact ⟨rfl, rfl⟩

theorem rdays_1 (y : Nat) (w : World) : Calls Try.prog 55 #[.int .i64 (y : Int), .int .i64 1] w fun e w' => e = .returned (.int .i64 31) ∧ w' = w := by
  go_enter Try.func55, Try.ntmps55
  go_wp2
  go_ret
  exact ⟨rfl, rfl⟩

theorem rdays_3 (y : Nat) (w : World) : Calls Try.prog 55 #[.int .i64 (y : Int), .int .i64 3] w fun e w' => e = .returned (.int .i64 31) ∧ w' = w := by
  go_enter Try.func55, Try.ntmps55
  go_wp2
  go_ret
  exact ⟨rfl, rfl⟩

theorem rdays_4 (y : Nat) (w : World) : Calls Try.prog 55 #[.int .i64 (y : Int), .int .i64 4] w fun e w' => e = .returned (.int .i64 30) ∧ w' = w := by
  go_enter Try.func55, Try.ntmps55
  go_wp2
  go_ret
  exact ⟨rfl, rfl⟩

theorem rdays_5 (y : Nat) (w : World) : Calls Try.prog 55 #[.int .i64 (y : Int), .int .i64 5] w fun e w' => e = .returned (.int .i64 31) ∧ w' = w := by
  go_enter Try.func55, Try.ntmps55
  go_wp2
  go_ret
  exact ⟨rfl, rfl⟩

theorem rdays_6 (y : Nat) (w : World) : Calls Try.prog 55 #[.int .i64 (y : Int), .int .i64 6] w fun e w' => e = .returned (.int .i64 30) ∧ w' = w := by
  go_enter Try.func55, Try.ntmps55
  go_wp2
  go_ret
  exact ⟨rfl, rfl⟩

theorem rdays_7 (y : Nat) (w : World) : Calls Try.prog 55 #[.int .i64 (y : Int), .int .i64 7] w fun e w' => e = .returned (.int .i64 31) ∧ w' = w := by
  go_enter Try.func55, Try.ntmps55
  go_wp2
  go_ret
  exact ⟨rfl, rfl⟩

theorem rdays_8 (y : Nat) (w : World) : Calls Try.prog 55 #[.int .i64 (y : Int), .int .i64 8] w fun e w' => e = .returned (.int .i64 31) ∧ w' = w := by
  go_enter Try.func55, Try.ntmps55
  go_wp2
  go_ret
  exact ⟨rfl, rfl⟩

theorem rdays_9 (y : Nat) (w : World) : Calls Try.prog 55 #[.int .i64 (y : Int), .int .i64 9] w fun e w' => e = .returned (.int .i64 30) ∧ w' = w := by
  go_enter Try.func55, Try.ntmps55
  go_wp2
  go_ret
  exact ⟨rfl, rfl⟩

theorem rdays_10 (y : Nat) (w : World) : Calls Try.prog 55 #[.int .i64 (y : Int), .int .i64 10] w fun e w' => e = .returned (.int .i64 31) ∧ w' = w := by
  go_enter Try.func55, Try.ntmps55
  go_wp2
  go_ret
  exact ⟨rfl, rfl⟩

theorem rdays_11 (y : Nat) (w : World) : Calls Try.prog 55 #[.int .i64 (y : Int), .int .i64 11] w fun e w' => e = .returned (.int .i64 30) ∧ w' = w := by
  go_enter Try.func55, Try.ntmps55
  go_wp2
  go_ret
  exact ⟨rfl, rfl⟩

theorem rdays_12 (y : Nat) (w : World) : Calls Try.prog 55 #[.int .i64 (y : Int), .int .i64 12] w fun e w' => e = .returned (.int .i64 31) ∧ w' = w := by
  go_enter Try.func55, Try.ntmps55
  go_wp2
  go_ret
  exact ⟨rfl, rfl⟩

theorem rdays_2a (y : Nat) (w : World) (h : ((y : Int) % 4 == 0) = false) : Calls Try.prog 55 #[.int .i64 (y : Int), .int .i64 2] w fun e w' => e = .returned (.int .i64 28) ∧ w' = w := by
  go_enter Try.func55, Try.ntmps55
  go_wp2
  go_ret
  exact ⟨rfl, rfl⟩

theorem rdays_2b (y : Nat) (w : World) (h : ((y : Int) % 4 == 0) = true) (h1 : ((y : Int) % 100 != 0) = true) : Calls Try.prog 55 #[.int .i64 (y : Int), .int .i64 2] w fun e w' => e = .returned (.int .i64 29) ∧ w' = w := by
  go_enter Try.func55, Try.ntmps55
  go_wp2
  go_ret
  exact ⟨rfl, rfl⟩

theorem rdays_2c (y : Nat) (w : World) (h : ((y : Int) % 4 == 0) = true) (h1 : ((y : Int) % 100 != 0) = false) (h2 : ((y : Int) % 400 == 0) = true) : Calls Try.prog 55 #[.int .i64 (y : Int), .int .i64 2] w fun e w' => e = .returned (.int .i64 29) ∧ w' = w := by
  go_enter Try.func55, Try.ntmps55
  go_wp2
  go_ret
  exact ⟨rfl, rfl⟩

theorem rdays_2d (y : Nat) (w : World) (h : ((y : Int) % 4 == 0) = true) (h1 : ((y : Int) % 100 != 0) = false) (h2 : ((y : Int) % 400 == 0) = false) : Calls Try.prog 55 #[.int .i64 (y : Int), .int .i64 2] w fun e w' => e = .returned (.int .i64 28) ∧ w' = w := by
  go_enter Try.func55, Try.ntmps55
  go_wp2
  go_ret
  exact ⟨rfl, rfl⟩

theorem rdays_any (y m : Nat) (w : World) : Calls Try.prog 55 #[.int .i64 (y : Int), .int .i64 (m : Int)] w fun e w' => e = .returned (.int .i64 (Stamp.days y m : Int)) ∧ w' = w := by
  rcases Nat.lt_or_ge m 13 with h | h
  rotate_left
  · exact rdays_big y m w h
  match m, h with
  | 0, _ => exact rdays_0 y w
  | 1, _ => exact rdays_1 y w
  | 3, _ => exact rdays_3 y w
  | 4, _ => exact rdays_4 y w
  | 5, _ => exact rdays_5 y w
  | 6, _ => exact rdays_6 y w
  | 7, _ => exact rdays_7 y w
  | 8, _ => exact rdays_8 y w
  | 9, _ => exact rdays_9 y w
  | 10, _ => exact rdays_10 y w
  | 11, _ => exact rdays_11 y w
  | 12, _ => exact rdays_12 y w
  | 2, _ =>
    by_cases h4 : y % 4 = 0
    · have e4 : ((y : Int) % 4 == 0) = true := by simp; omega
      by_cases h100 : y % 100 = 0
      · have e100 : ((y : Int) % 100 != 0) = false := by simp; omega
        by_cases h400 : y % 400 = 0
        · rw [show Stamp.days y 2 = 29 from if_pos ⟨rfl, h4, .inr h400⟩]
          exact rdays_2c y w e4 e100 (by simp; omega)
        · rw [show Stamp.days y 2 = 28 from if_neg (fun h => h.2.2.elim (fun h => h h100) h400)]
          exact rdays_2d y w e4 e100 (by simp; omega)
      · rw [show Stamp.days y 2 = 29 from if_pos ⟨rfl, h4, .inl h100⟩]
        exact rdays_2b y w e4 (by simp; omega)
    · rw [show Stamp.days y 2 = 28 from if_neg (fun h => h4 h.2.1)]
      exact rdays_2a y w (by simp; omega)

set_option maxHeartbeats 4000000 in
theorem rright_any (t : Tm) (w : World) (ht : t.fits) : Calls Try.prog 27 #[t.v] w fun e w' => e = .returned (.bool (Stamp.right t)) ∧ Below w.heap.size w w' := by
  obtain ⟨y, mo, d, h, mi, s⟩ := t
  obtain ⟨hy, h1, h2, h3, h4, h5⟩ := ht
  dsimp only at hy h1 h2 h3 h4 h5
  obtain ⟨D, hD⟩ : ∃ D, Stamp.days y mo = D := ⟨_, rfl⟩
  have hq : Hid (Stamp.right ⟨y, mo, d, h, mi, s⟩ = (decide (1 ≤ d) && decide (d ≤ D) && decide (1900 ≤ y) && decide (y ≤ 9999) && decide (h < 24) && decide (mi < 60) && decide (s < 60))) := Lib.hid (by unfold Stamp.right; rw [hD])
  have HD := Lib.hid (fun W => hD ▸ rdays_any y mo W : ∀ W : World, Calls Try.prog 55 #[.int .i64 (y : Int), .int .i64 (mo : Int)] W fun e w' => e = .returned (.int .i64 (D : Int)) ∧ w' = W)
  clear hD
  have w1 : ∀ x : Nat, x < 65536 → IntKind.i64.wrap (x : Int) = (x : Int) := fun x hx => by rw [IntKind.wrap_i64]; omega
  have wy := w1 y hy
  have wm := w1 mo (by omega)
  have wd := w1 d (by omega)
  clear w1
  dsimp only [Tm.v]
  by_cases c0 : (1900 : Int) ≤ y
  · have e0 : decide ((1900 : Int) ≤ y) = true := decide_eq_true c0
    by_cases c1 : (y : Int) ≤ 9999
    · have e1 : decide ((y : Int) ≤ 9999) = true := decide_eq_true c1
      by_cases c2 : (1 : Int) ≤ d
      · have e2 : decide ((1 : Int) ≤ d) = true := decide_eq_true c2
        by_cases c3 : (d : Int) ≤ D
        · have e3 : decide ((d : Int) ≤ D) = true := decide_eq_true c3
          by_cases c4 : (h : Int) < 24
          · have e4 : decide ((h : Int) < 24) = true := decide_eq_true c4
            by_cases c5 : (mi : Int) < 60
            · have e5 : decide ((mi : Int) < 60) = true := decide_eq_true c5
              by_cases c6 : (s : Int) < 60
              · have e6 : decide ((s : Int) < 60) = true := decide_eq_true c6
                rw [show Stamp.right ⟨y, mo, d, h, mi, s⟩ = true by rw [hq.out]; simp; omega]
                clear hq
                go_enter Try.func27, Try.ntmps27
                go_wp2
                go_quiet ((go_at_call 55; with_reducible exact Calls.quiet_of_same (HD.out _)))
                go_wp2
                go_ret
                exact ⟨by first | rfl | (simp; omega), by (repeat (first | exact Below.refl _ _ | assumption | (refine Below.setCell ?_ (by first | omega | (simp; done) | (simp; omega)) _) | (refine Below.alloc ?_ (by first | omega | (simp; done) | (simp; omega)) _) | (refine below_drewN ?_ _) | (refine Below.drew ?_)))⟩
              · have e6 : decide ((s : Int) < 60) = false := decide_eq_false c6
                rw [show Stamp.right ⟨y, mo, d, h, mi, s⟩ = false by rw [hq.out]; simp; omega]
                clear hq
                go_enter Try.func27, Try.ntmps27
                go_wp2
                go_quiet ((go_at_call 55; with_reducible exact Calls.quiet_of_same (HD.out _)))
                go_wp2
                go_ret
                exact ⟨by first | rfl | (simp; omega), by (repeat (first | exact Below.refl _ _ | assumption | (refine Below.setCell ?_ (by first | omega | (simp; done) | (simp; omega)) _) | (refine Below.alloc ?_ (by first | omega | (simp; done) | (simp; omega)) _) | (refine below_drewN ?_ _) | (refine Below.drew ?_)))⟩
            · have e5 : decide ((mi : Int) < 60) = false := decide_eq_false c5
              rw [show Stamp.right ⟨y, mo, d, h, mi, s⟩ = false by rw [hq.out]; simp; omega]
              clear hq
              go_enter Try.func27, Try.ntmps27
              go_wp2
              go_quiet ((go_at_call 55; with_reducible exact Calls.quiet_of_same (HD.out _)))
              go_wp2
              go_ret
              exact ⟨by first | rfl | (simp; omega), by (repeat (first | exact Below.refl _ _ | assumption | (refine Below.setCell ?_ (by first | omega | (simp; done) | (simp; omega)) _) | (refine Below.alloc ?_ (by first | omega | (simp; done) | (simp; omega)) _) | (refine below_drewN ?_ _) | (refine Below.drew ?_)))⟩
          · have e4 : decide ((h : Int) < 24) = false := decide_eq_false c4
            rw [show Stamp.right ⟨y, mo, d, h, mi, s⟩ = false by rw [hq.out]; simp; omega]
            clear hq
            go_enter Try.func27, Try.ntmps27
            go_wp2
            go_quiet ((go_at_call 55; with_reducible exact Calls.quiet_of_same (HD.out _)))
            go_wp2
            go_ret
            exact ⟨by first | rfl | (simp; omega), by (repeat (first | exact Below.refl _ _ | assumption | (refine Below.setCell ?_ (by first | omega | (simp; done) | (simp; omega)) _) | (refine Below.alloc ?_ (by first | omega | (simp; done) | (simp; omega)) _) | (refine below_drewN ?_ _) | (refine Below.drew ?_)))⟩
        · have e3 : decide ((d : Int) ≤ D) = false := decide_eq_false c3
          have e3n : decide (d ≤ D) = false := decide_eq_false (by omega)
          rw [show Stamp.right ⟨y, mo, d, h, mi, s⟩ = false by rw [hq.out]; simp; omega]
          clear hq
          go_enter Try.func27, Try.ntmps27
          go_wp2
          go_quiet ((go_at_call 55; with_reducible exact Calls.quiet_of_same (HD.out _)))
          go_wp2
          go_ret
          exact ⟨by first | rfl | (simp; omega), by (repeat (first | exact Below.refl _ _ | assumption | (refine Below.setCell ?_ (by first | omega | (simp; done) | (simp; omega)) _) | (refine Below.alloc ?_ (by first | omega | (simp; done) | (simp; omega)) _) | (refine below_drewN ?_ _) | (refine Below.drew ?_)))⟩
      · have e2 : decide ((1 : Int) ≤ d) = false := decide_eq_false c2
        rw [show Stamp.right ⟨y, mo, d, h, mi, s⟩ = false by rw [hq.out]; simp; omega]
        clear hq
        go_enter Try.func27, Try.ntmps27
        go_wp2
        go_quiet (fail)
        go_wp2
        go_ret
        exact ⟨by first | rfl | (simp; omega), by (repeat (first | exact Below.refl _ _ | assumption | (refine Below.setCell ?_ (by first | omega | (simp; done) | (simp; omega)) _) | (refine Below.alloc ?_ (by first | omega | (simp; done) | (simp; omega)) _) | (refine below_drewN ?_ _) | (refine Below.drew ?_)))⟩
    · have e1 : decide ((y : Int) ≤ 9999) = false := decide_eq_false c1
      rw [show Stamp.right ⟨y, mo, d, h, mi, s⟩ = false by rw [hq.out]; simp; omega]
      clear hq
      go_enter Try.func27, Try.ntmps27
      go_wp2
      go_quiet (fail)
      go_wp2
      go_ret
      exact ⟨by first | rfl | (simp; omega), by (repeat (first | exact Below.refl _ _ | assumption | (refine Below.setCell ?_ (by first | omega | (simp; done) | (simp; omega)) _) | (refine Below.alloc ?_ (by first | omega | (simp; done) | (simp; omega)) _) | (refine below_drewN ?_ _) | (refine Below.drew ?_)))⟩
  · have e0 : decide ((1900 : Int) ≤ y) = false := decide_eq_false c0
    rw [show Stamp.right ⟨y, mo, d, h, mi, s⟩ = false by rw [hq.out]; simp; omega]
    clear hq
    go_enter Try.func27, Try.ntmps27
    go_wp2
    go_quiet (fail)
    go_wp2
    go_ret
    exact ⟨by first | rfl | (simp; omega), by (repeat (first | exact Below.refl _ _ | assumption | (refine Below.setCell ?_ (by first | omega | (simp; done) | (simp; omega)) _) | (refine Below.alloc ?_ (by first | omega | (simp; done) | (simp; omega)) _) | (refine below_drewN ?_ _) | (refine Below.drew ?_)))⟩

end Go.Proofs.Ytmnekhliblkibaa
end

section
/- The contract of the reference's Less. -/
namespace Go.Proofs.Ytmnekhliblkibaa
open Go.RowKit
set_option maxRecDepth 100000
set_option linter.unusedVariables false
set_option linter.unusedSimpArgs false

set_option maxHeartbeats 2000000 in
theorem rless_any (a b : Tm) (ha : a.fits) (hb : b.fits) (w : World) : Calls Try.prog 26 #[a.v, b.v] w fun e w' => e = .returned (.bool (Stamp.less a b)) ∧ Below w.heap.size w w' := by
  obtain ⟨y, mo, d, h, mi, s⟩ := a
  obtain ⟨y', mo', d', h', mi', s'⟩ := b
  obtain ⟨hy, h1, h2, h3, h4, h5⟩ := ha
  obtain ⟨hy', h1', h2', h3', h4', h5'⟩ := hb
  dsimp only at hy h1 h2 h3 h4 h5 hy' h1' h2' h3' h4' h5'
  dsimp only [Tm.v]
  obtain ⟨xs, hxs⟩ : ∃ xs, (⟨y, mo, d, h, mi, s⟩ : Tm).parts = xs := ⟨_, rfl⟩
  obtain ⟨ys, hys⟩ : ∃ ys, (⟨y', mo', d', h', mi', s'⟩ : Tm).parts = ys := ⟨_, rfl⟩
  have hls : Stamp.less ⟨y, mo, d, h, mi, s⟩ ⟨y', mo', d', h', mi', s'⟩ = lexLt xs ys := by unfold Stamp.less; rw [hxs, hys]
  rw [hls]
  have hA : Blk ((((w.alloc (.cells #[.int .u16 (y : Int), .int .u8 (mo : Int), .int .u8 (d : Int), .int .u8 (h : Int), .int .u8 (mi : Int), .int .u8 (s : Int)] 27)).alloc (.cells #[.int .u16 (y' : Int), .int .u8 (mo' : Int), .int .u8 (d' : Int), .int .u8 (h' : Int), .int .u8 (mi' : Int), .int .u8 (s' : Int)] 27)).alloc (.cells #[.int .i64 (y : Int), .int .i64 (mo : Int), .int .i64 (d : Int), .int .i64 (h : Int), .int .i64 (mi : Int), .int .i64 (s : Int)] 3)).alloc (.cells #[.int .i64 (y' : Int), .int .i64 (mo' : Int), .int .i64 (d' : Int), .int .i64 (h' : Int), .int .i64 (mi' : Int), .int .i64 (s' : Int)] 3)) (w.heap.size + 1 + 1) 3 (xs.map fun x : Nat => Value.int .i64 (x : Int)).toArray := by
    rw [← hxs]
    exact Blk.alloc (Blk.new' _ _ (by simp)) _
  have hB : Blk ((((w.alloc (.cells #[.int .u16 (y : Int), .int .u8 (mo : Int), .int .u8 (d : Int), .int .u8 (h : Int), .int .u8 (mi : Int), .int .u8 (s : Int)] 27)).alloc (.cells #[.int .u16 (y' : Int), .int .u8 (mo' : Int), .int .u8 (d' : Int), .int .u8 (h' : Int), .int .u8 (mi' : Int), .int .u8 (s' : Int)] 27)).alloc (.cells #[.int .i64 (y : Int), .int .i64 (mo : Int), .int .i64 (d : Int), .int .i64 (h : Int), .int .i64 (mi : Int), .int .i64 (s : Int)] 3)).alloc (.cells #[.int .i64 (y' : Int), .int .i64 (mo' : Int), .int .i64 (d' : Int), .int .i64 (h' : Int), .int .i64 (mi' : Int), .int .i64 (s' : Int)] 3)) (w.heap.size + 1 + 1 + 1) 3 (ys.map fun x : Nat => Value.int .i64 (x : Int)).toArray := by
    rw [← hys]
    exact Blk.new' _ _ (by simp)
  have hbw : Below w.heap.size w ((((w.alloc (.cells #[.int .u16 (y : Int), .int .u8 (mo : Int), .int .u8 (d : Int), .int .u8 (h : Int), .int .u8 (mi : Int), .int .u8 (s : Int)] 27)).alloc (.cells #[.int .u16 (y' : Int), .int .u8 (mo' : Int), .int .u8 (d' : Int), .int .u8 (h' : Int), .int .u8 (mi' : Int), .int .u8 (s' : Int)] 27)).alloc (.cells #[.int .i64 (y : Int), .int .i64 (mo : Int), .int .i64 (d : Int), .int .i64 (h : Int), .int .i64 (mi : Int), .int .i64 (s : Int)] 3)).alloc (.cells #[.int .i64 (y' : Int), .int .i64 (mo' : Int), .int .i64 (d' : Int), .int .i64 (h' : Int), .int .i64 (mi' : Int), .int .i64 (s' : Int)] 3)) := by (repeat (first | exact Below.refl _ _ | assumption | (refine Below.setCell ?_ (by first | omega | (simp; done) | (simp; omega)) _) | (refine Below.alloc ?_ (by first | omega | (simp; done) | (simp; omega)) _) | (refine below_drewN ?_ _) | (refine Below.drew ?_)))
  have hlx : xs.length = 6 := by rw [← hxs]; rfl
  have hly : ys.length = 6 := by rw [← hys]; rfl
  go_enter Try.func26, Try.ntmps26
  go_wp2
  obtain ⟨W, hW⟩ : ∃ W, ((((w.alloc (.cells #[.int .u16 (y : Int), .int .u8 (mo : Int), .int .u8 (d : Int), .int .u8 (h : Int), .int .u8 (mi : Int), .int .u8 (s : Int)] 27)).alloc (.cells #[.int .u16 (y' : Int), .int .u8 (mo' : Int), .int .u8 (d' : Int), .int .u8 (h' : Int), .int .u8 (mi' : Int), .int .u8 (s' : Int)] 27)).alloc (.cells #[.int .i64 (y : Int), .int .i64 (mo : Int), .int .i64 (d : Int), .int .i64 (h : Int), .int .i64 (mi : Int), .int .i64 (s : Int)] 3)).alloc (.cells #[.int .i64 (y' : Int), .int .i64 (mo' : Int), .int .i64 (d' : Int), .int .i64 (h' : Int), .int .i64 (mi' : Int), .int .i64 (s' : Int)] 3)) = W := ⟨_, rfl⟩
  rw [hW] at hA hB hbw ⊢
  have hAl := hA.lt
  have hBl := hB.lt
  have HX := Lib.hid (And.intro hA (And.intro hB (And.intro hbw (And.intro hlx hly))))
  clear hW hA hB hbw hlx hly hls hxs hys
  go_loopw [7] (fun i wr => ∃ k : Nat, k ≤ 6 ∧ i = .int .i64 k ∧ xs.take k = ys.take k ∧ Below W.heap.size W wr) (fun i _ => 6 - (intOf i).toNat)
  case atStart => exact ⟨0, by omega, rfl, rfl, Below.refl _ _⟩
  case round =>
    obtain ⟨k, hk, rfl, htk, hb⟩ := hrel
    have hsz := hb.size
    by_cases hlt : k < 6
    · have hlt' : (k : Int) < 6 := by omega
      obtain ⟨x, hx⟩ : ∃ x, xs[k]? = some x := ⟨_, List.getElem?_eq_getElem (by have := HX.out.2.2.2.1; omega)⟩
      obtain ⟨z, hz⟩ : ∃ z, ys[k]? = some z := ⟨_, List.getElem?_eq_getElem (by have := HX.out.2.2.2.2; omega)⟩
      have k0 : wr.cell? ⟨w.heap.size + 1 + 1, k, none⟩ = some (.int .i64 (x : Int)) := (hb.cell (p := ⟨w.heap.size + 1 + 1, k, none⟩) hAl).trans (by rw [HX.out.1.cell k]; simp [hx])
      have k1 : wr.cell? ⟨w.heap.size + 1 + 1 + 1, k, none⟩ = some (.int .i64 (z : Int)) := (hb.cell (p := ⟨w.heap.size + 1 + 1 + 1, k, none⟩) hBl).trans (by rw [HX.out.2.1.cell k]; simp [hz])
      have HO := Lib.hid (And.intro htk (And.intro hb (And.intro hx hz)))
      clear htk hb hx hz
      by_cases hxz : x = z
      · subst hxz
        have hne : ((x : Int) != (x : Int)) = false := by simp
        go_wp2
        go_quiet (fail)
        go_wp2
        go_roundw
        case rel => exact ⟨k + 1, by omega, by go_num, by rw [List.take_add_one, List.take_add_one, HO.out.1, HO.out.2.2.1, HO.out.2.2.2], below_drewN HO.out.2.1 _⟩
        case measure => simp [intOf]; omega
      · have hne : ((x : Int) != (z : Int)) = true := by simp; omega
        have hv : Hid (lexLt xs ys = decide (x < z)) := Lib.hid (lexLt_at xs ys k x z HO.out.1 HO.out.2.2.1 HO.out.2.2.2 hxz)
        go_wp2
        go_quiet (fail)
        go_wp2
        go_quiet (fail)
        go_wp2
        go_ret
        exact ⟨by rw [hv.out]; first | rfl | simp, HX.out.2.2.1.trans ((below_drewN (below_drewN HO.out.2.1 _) _).mono HX.out.2.2.1.size)⟩
    · obtain rfl : k = 6 := by omega
      have hge : ¬ (6 : Int) < 6 := by omega
      have he : xs = ys := by
        rw [List.take_of_length_le (by have := HX.out.2.2.2.1; omega), List.take_of_length_le (by have := HX.out.2.2.2.2; omega)] at htk
        exact htk
      have hv : Hid (lexLt xs ys = false) := Lib.hid (by rw [he]; exact lexLt_self _)
      have HO := Lib.hid hb
      clear hb he htk
      go_wp2
      go_ret
      exact ⟨by rw [hv.out]; first | rfl | simp, HX.out.2.2.1.trans (HO.out.mono HX.out.2.2.1.size)⟩
end Go.Proofs.Ytmnekhliblkibaa
end

section
/- The reference's Same, at certificates that say the same. -/
namespace Go.Proofs.Ytmnekhliblkibaa
open Go.RowKit
set_option maxRecDepth 100000
set_option linter.unusedVariables false
set_option linter.unusedSimpArgs false

/-- The seven rows of a certificate. -/
def CV.seven (c : CV) : List Value := [c.raw, c.tbs, c.iss, c.sub, c.ser, c.n, c.sig]
set_option maxHeartbeats 1000000 in
theorem same_any (C D : CV) (l : List (List UInt8)) (w : World) (hl : l.length = 7) (hC : ∀ (k : Nat) (xs : List UInt8), l[k]? = some xs → ∃ v, C.seven[k]? = some v ∧ RdV w w.heap.size v xs) (hD : ∀ (k : Nat) (xs : List UInt8), l[k]? = some xs → ∃ v, D.seven[k]? = some v ∧ RdV w w.heap.size v xs)
    (hf : C.from_ = D.from_) (ht : C.to = D.to) (he : C.e = D.e) (hfl : C.fl = D.fl) :
    Calls Try.prog 18 #[C.val, D.val] w fun e w' => e = .returned (.bool true) ∧ Below w.heap.size w w' := by
  obtain ⟨a0, a1, a2, a3, a4, af, at_, a5, ae, a6, afl⟩ := C
  obtain ⟨b0, b1, b2, b3, b4, bf, bt, b5, be, b6, bfl⟩ := D
  dsimp only at hf ht he hfl
  subst hf ht he hfl
  obtain ⟨y, mo, d, h, mi, s⟩ := af
  obtain ⟨y', mo', d', h', mi', s'⟩ := at_
  obtain ⟨ca, path, usage, code⟩ := afl
  have hx : ∀ k, k < 7 → ∃ xs, l[k]? = some xs := fun k hk => ⟨_, List.getElem?_eq_getElem (by omega)⟩
  obtain ⟨x0, hx0⟩ := hx 0 (by omega)
  obtain ⟨_, e, A0, n0, c0, rfl, r0⟩ := hC 0 x0 hx0
  obtain rfl : a0 = .slice A0 n0 c0 := Option.some.inj e
  clear e
  obtain ⟨_, e, B0, m0, d0, rfl, q0⟩ := hD 0 x0 hx0
  obtain rfl : b0 = .slice B0 m0 d0 := Option.some.inj e
  clear e
  obtain ⟨x1, hx1⟩ := hx 1 (by omega)
  obtain ⟨_, e, A1, n1, c1, rfl, r1⟩ := hC 1 x1 hx1
  obtain rfl : a1 = .slice A1 n1 c1 := Option.some.inj e
  clear e
  obtain ⟨_, e, B1, m1, d1, rfl, q1⟩ := hD 1 x1 hx1
  obtain rfl : b1 = .slice B1 m1 d1 := Option.some.inj e
  clear e
  obtain ⟨x2, hx2⟩ := hx 2 (by omega)
  obtain ⟨_, e, A2, n2, c2, rfl, r2⟩ := hC 2 x2 hx2
  obtain rfl : a2 = .slice A2 n2 c2 := Option.some.inj e
  clear e
  obtain ⟨_, e, B2, m2, d2, rfl, q2⟩ := hD 2 x2 hx2
  obtain rfl : b2 = .slice B2 m2 d2 := Option.some.inj e
  clear e
  obtain ⟨x3, hx3⟩ := hx 3 (by omega)
  obtain ⟨_, e, A3, n3, c3, rfl, r3⟩ := hC 3 x3 hx3
  obtain rfl : a3 = .slice A3 n3 c3 := Option.some.inj e
  clear e
  obtain ⟨_, e, B3, m3, d3, rfl, q3⟩ := hD 3 x3 hx3
  obtain rfl : b3 = .slice B3 m3 d3 := Option.some.inj e
  clear e
  obtain ⟨x4, hx4⟩ := hx 4 (by omega)
  obtain ⟨_, e, A4, n4, c4, rfl, r4⟩ := hC 4 x4 hx4
  obtain rfl : a4 = .slice A4 n4 c4 := Option.some.inj e
  clear e
  obtain ⟨_, e, B4, m4, d4, rfl, q4⟩ := hD 4 x4 hx4
  obtain rfl : b4 = .slice B4 m4 d4 := Option.some.inj e
  clear e
  obtain ⟨x5, hx5⟩ := hx 5 (by omega)
  obtain ⟨_, e, A5, n5, c5, rfl, r5⟩ := hC 5 x5 hx5
  obtain rfl : a5 = .slice A5 n5 c5 := Option.some.inj e
  clear e
  obtain ⟨_, e, B5, m5, d5, rfl, q5⟩ := hD 5 x5 hx5
  obtain rfl : b5 = .slice B5 m5 d5 := Option.some.inj e
  clear e
  obtain ⟨x6, hx6⟩ := hx 6 (by omega)
  obtain ⟨_, e, A6, n6, c6, rfl, r6⟩ := hC 6 x6 hx6
  obtain rfl : a6 = .slice A6 n6 c6 := Option.some.inj e
  clear e
  obtain ⟨_, e, B6, m6, d6, rfl, q6⟩ := hD 6 x6 hx6
  obtain rfl : b6 = .slice B6 m6 d6 := Option.some.inj e
  clear e
  have H : Hid (∀ p ∈ ([(Value.slice A0 n0 c0, Value.slice B0 m0 d0, x0), (Value.slice A1 n1 c1, Value.slice B1 m1 d1, x1), (Value.slice A2 n2 c2, Value.slice B2 m2 d2, x2), (Value.slice A3 n3 c3, Value.slice B3 m3 d3, x3), (Value.slice A4 n4 c4, Value.slice B4 m4 d4, x4), (Value.slice A5 n5 c5, Value.slice B5 m5 d5, x5), (Value.slice A6 n6 c6, Value.slice B6 m6 d6, x6)] : List (Value × Value × List UInt8)), RdV w w.heap.size p.1 p.2.2 ∧ RdV w w.heap.size p.2.1 p.2.2) := Lib.hid (by
    intro p hp
    simp only [List.mem_cons, List.not_mem_nil, or_false] at hp
    rcases hp with rfl | rfl | rfl | rfl | rfl | rfl | rfl
    · exact ⟨RdV.mk r0, RdV.mk q0⟩
    · exact ⟨RdV.mk r1, RdV.mk q1⟩
    · exact ⟨RdV.mk r2, RdV.mk q2⟩
    · exact ⟨RdV.mk r3, RdV.mk q3⟩
    · exact ⟨RdV.mk r4, RdV.mk q4⟩
    · exact ⟨RdV.mk r5, RdV.mk q5⟩
    · exact ⟨RdV.mk r6, RdV.mk q6⟩)
  clear hC hD hx hx0 r0 q0 hx1 r1 q1 hx2 r2 q2 hx3 r3 q3 hx4 r4 q4 hx5 r5 q5 hx6 r6 q6
  obtain ⟨cc, hcc⟩ : ∃ cc : List (Value × Value × List UInt8), [(Value.slice A0 n0 c0, Value.slice B0 m0 d0, x0), (Value.slice A1 n1 c1, Value.slice B1 m1 d1, x1), (Value.slice A2 n2 c2, Value.slice B2 m2 d2, x2), (Value.slice A3 n3 c3, Value.slice B3 m3 d3, x3), (Value.slice A4 n4 c4, Value.slice B4 m4 d4, x4), (Value.slice A5 n5 c5, Value.slice B5 m5 d5, x5), (Value.slice A6 n6 c6, Value.slice B6 m6 d6, x6)] = cc := ⟨_, rfl⟩
  have hX : Blk ((((w.alloc (.cells #[Value.slice A0 n0 c0, Value.slice A1 n1 c1, Value.slice A2 n2 c2, Value.slice A3 n3 c3, Value.slice A4 n4 c4, .int .u16 (y : Int), .int .u8 (mo : Int), .int .u8 (d : Int), .int .u8 (h : Int), .int .u8 (mi : Int), .int .u8 (s : Int), .int .u16 (y' : Int), .int .u8 (mo' : Int), .int .u8 (d' : Int), .int .u8 (h' : Int), .int .u8 (mi' : Int), .int .u8 (s' : Int), Value.slice A5 n5 c5, .int .u64 (ae : Int), Value.slice A6 n6 c6, .bool ca, .int .i64 path, .int .i64 usage, .bool code] 32)).alloc (.cells #[Value.slice B0 m0 d0, Value.slice B1 m1 d1, Value.slice B2 m2 d2, Value.slice B3 m3 d3, Value.slice B4 m4 d4, .int .u16 (y : Int), .int .u8 (mo : Int), .int .u8 (d : Int), .int .u8 (h : Int), .int .u8 (mi : Int), .int .u8 (s : Int), .int .u16 (y' : Int), .int .u8 (mo' : Int), .int .u8 (d' : Int), .int .u8 (h' : Int), .int .u8 (mi' : Int), .int .u8 (s' : Int), Value.slice B5 m5 d5, .int .u64 (ae : Int), Value.slice B6 m6 d6, .bool ca, .int .i64 path, .int .i64 usage, .bool code] 32)).alloc (.cells #[Value.slice A0 n0 c0, Value.slice A1 n1 c1, Value.slice A2 n2 c2, Value.slice A3 n3 c3, Value.slice A4 n4 c4, Value.slice A5 n5 c5, Value.slice A6 n6 c6] 22)).alloc (.cells #[Value.slice B0 m0 d0, Value.slice B1 m1 d1, Value.slice B2 m2 d2, Value.slice B3 m3 d3, Value.slice B4 m4 d4, Value.slice B5 m5 d5, Value.slice B6 m6 d6] 22)) w.heap.size 32 #[Value.slice A0 n0 c0, Value.slice A1 n1 c1, Value.slice A2 n2 c2, Value.slice A3 n3 c3, Value.slice A4 n4 c4, .int .u16 (y : Int), .int .u8 (mo : Int), .int .u8 (d : Int), .int .u8 (h : Int), .int .u8 (mi : Int), .int .u8 (s : Int), .int .u16 (y' : Int), .int .u8 (mo' : Int), .int .u8 (d' : Int), .int .u8 (h' : Int), .int .u8 (mi' : Int), .int .u8 (s' : Int), Value.slice A5 n5 c5, .int .u64 (ae : Int), Value.slice A6 n6 c6, .bool ca, .int .i64 path, .int .i64 usage, .bool code] := (((Blk.new w _ _).alloc _).alloc _).alloc _
  have hY : Blk ((((w.alloc (.cells #[Value.slice A0 n0 c0, Value.slice A1 n1 c1, Value.slice A2 n2 c2, Value.slice A3 n3 c3, Value.slice A4 n4 c4, .int .u16 (y : Int), .int .u8 (mo : Int), .int .u8 (d : Int), .int .u8 (h : Int), .int .u8 (mi : Int), .int .u8 (s : Int), .int .u16 (y' : Int), .int .u8 (mo' : Int), .int .u8 (d' : Int), .int .u8 (h' : Int), .int .u8 (mi' : Int), .int .u8 (s' : Int), Value.slice A5 n5 c5, .int .u64 (ae : Int), Value.slice A6 n6 c6, .bool ca, .int .i64 path, .int .i64 usage, .bool code] 32)).alloc (.cells #[Value.slice B0 m0 d0, Value.slice B1 m1 d1, Value.slice B2 m2 d2, Value.slice B3 m3 d3, Value.slice B4 m4 d4, .int .u16 (y : Int), .int .u8 (mo : Int), .int .u8 (d : Int), .int .u8 (h : Int), .int .u8 (mi : Int), .int .u8 (s : Int), .int .u16 (y' : Int), .int .u8 (mo' : Int), .int .u8 (d' : Int), .int .u8 (h' : Int), .int .u8 (mi' : Int), .int .u8 (s' : Int), Value.slice B5 m5 d5, .int .u64 (ae : Int), Value.slice B6 m6 d6, .bool ca, .int .i64 path, .int .i64 usage, .bool code] 32)).alloc (.cells #[Value.slice A0 n0 c0, Value.slice A1 n1 c1, Value.slice A2 n2 c2, Value.slice A3 n3 c3, Value.slice A4 n4 c4, Value.slice A5 n5 c5, Value.slice A6 n6 c6] 22)).alloc (.cells #[Value.slice B0 m0 d0, Value.slice B1 m1 d1, Value.slice B2 m2 d2, Value.slice B3 m3 d3, Value.slice B4 m4 d4, Value.slice B5 m5 d5, Value.slice B6 m6 d6] 22)) (w.heap.size + 1) 32 #[Value.slice B0 m0 d0, Value.slice B1 m1 d1, Value.slice B2 m2 d2, Value.slice B3 m3 d3, Value.slice B4 m4 d4, .int .u16 (y : Int), .int .u8 (mo : Int), .int .u8 (d : Int), .int .u8 (h : Int), .int .u8 (mi : Int), .int .u8 (s : Int), .int .u16 (y' : Int), .int .u8 (mo' : Int), .int .u8 (d' : Int), .int .u8 (h' : Int), .int .u8 (mi' : Int), .int .u8 (s' : Int), Value.slice B5 m5 d5, .int .u64 (ae : Int), Value.slice B6 m6 d6, .bool ca, .int .i64 path, .int .i64 usage, .bool code] := ((Blk.new' _ _ (by simp)).alloc _).alloc _
  have hA : Blk ((((w.alloc (.cells #[Value.slice A0 n0 c0, Value.slice A1 n1 c1, Value.slice A2 n2 c2, Value.slice A3 n3 c3, Value.slice A4 n4 c4, .int .u16 (y : Int), .int .u8 (mo : Int), .int .u8 (d : Int), .int .u8 (h : Int), .int .u8 (mi : Int), .int .u8 (s : Int), .int .u16 (y' : Int), .int .u8 (mo' : Int), .int .u8 (d' : Int), .int .u8 (h' : Int), .int .u8 (mi' : Int), .int .u8 (s' : Int), Value.slice A5 n5 c5, .int .u64 (ae : Int), Value.slice A6 n6 c6, .bool ca, .int .i64 path, .int .i64 usage, .bool code] 32)).alloc (.cells #[Value.slice B0 m0 d0, Value.slice B1 m1 d1, Value.slice B2 m2 d2, Value.slice B3 m3 d3, Value.slice B4 m4 d4, .int .u16 (y : Int), .int .u8 (mo : Int), .int .u8 (d : Int), .int .u8 (h : Int), .int .u8 (mi : Int), .int .u8 (s : Int), .int .u16 (y' : Int), .int .u8 (mo' : Int), .int .u8 (d' : Int), .int .u8 (h' : Int), .int .u8 (mi' : Int), .int .u8 (s' : Int), Value.slice B5 m5 d5, .int .u64 (ae : Int), Value.slice B6 m6 d6, .bool ca, .int .i64 path, .int .i64 usage, .bool code] 32)).alloc (.cells #[Value.slice A0 n0 c0, Value.slice A1 n1 c1, Value.slice A2 n2 c2, Value.slice A3 n3 c3, Value.slice A4 n4 c4, Value.slice A5 n5 c5, Value.slice A6 n6 c6] 22)).alloc (.cells #[Value.slice B0 m0 d0, Value.slice B1 m1 d1, Value.slice B2 m2 d2, Value.slice B3 m3 d3, Value.slice B4 m4 d4, Value.slice B5 m5 d5, Value.slice B6 m6 d6] 22)) (w.heap.size + 1 + 1) 22 (cc.map (·.1)).toArray := by
    rw [← hcc]
    exact Blk.alloc (Blk.new' _ _ (by simp)) _
  have hB : Blk ((((w.alloc (.cells #[Value.slice A0 n0 c0, Value.slice A1 n1 c1, Value.slice A2 n2 c2, Value.slice A3 n3 c3, Value.slice A4 n4 c4, .int .u16 (y : Int), .int .u8 (mo : Int), .int .u8 (d : Int), .int .u8 (h : Int), .int .u8 (mi : Int), .int .u8 (s : Int), .int .u16 (y' : Int), .int .u8 (mo' : Int), .int .u8 (d' : Int), .int .u8 (h' : Int), .int .u8 (mi' : Int), .int .u8 (s' : Int), Value.slice A5 n5 c5, .int .u64 (ae : Int), Value.slice A6 n6 c6, .bool ca, .int .i64 path, .int .i64 usage, .bool code] 32)).alloc (.cells #[Value.slice B0 m0 d0, Value.slice B1 m1 d1, Value.slice B2 m2 d2, Value.slice B3 m3 d3, Value.slice B4 m4 d4, .int .u16 (y : Int), .int .u8 (mo : Int), .int .u8 (d : Int), .int .u8 (h : Int), .int .u8 (mi : Int), .int .u8 (s : Int), .int .u16 (y' : Int), .int .u8 (mo' : Int), .int .u8 (d' : Int), .int .u8 (h' : Int), .int .u8 (mi' : Int), .int .u8 (s' : Int), Value.slice B5 m5 d5, .int .u64 (ae : Int), Value.slice B6 m6 d6, .bool ca, .int .i64 path, .int .i64 usage, .bool code] 32)).alloc (.cells #[Value.slice A0 n0 c0, Value.slice A1 n1 c1, Value.slice A2 n2 c2, Value.slice A3 n3 c3, Value.slice A4 n4 c4, Value.slice A5 n5 c5, Value.slice A6 n6 c6] 22)).alloc (.cells #[Value.slice B0 m0 d0, Value.slice B1 m1 d1, Value.slice B2 m2 d2, Value.slice B3 m3 d3, Value.slice B4 m4 d4, Value.slice B5 m5 d5, Value.slice B6 m6 d6] 22)) (w.heap.size + 1 + 1 + 1) 22 (cc.map (·.2.1)).toArray := by
    rw [← hcc]
    exact Blk.new' _ _ (by simp)
  have hbw : Below w.heap.size w ((((w.alloc (.cells #[Value.slice A0 n0 c0, Value.slice A1 n1 c1, Value.slice A2 n2 c2, Value.slice A3 n3 c3, Value.slice A4 n4 c4, .int .u16 (y : Int), .int .u8 (mo : Int), .int .u8 (d : Int), .int .u8 (h : Int), .int .u8 (mi : Int), .int .u8 (s : Int), .int .u16 (y' : Int), .int .u8 (mo' : Int), .int .u8 (d' : Int), .int .u8 (h' : Int), .int .u8 (mi' : Int), .int .u8 (s' : Int), Value.slice A5 n5 c5, .int .u64 (ae : Int), Value.slice A6 n6 c6, .bool ca, .int .i64 path, .int .i64 usage, .bool code] 32)).alloc (.cells #[Value.slice B0 m0 d0, Value.slice B1 m1 d1, Value.slice B2 m2 d2, Value.slice B3 m3 d3, Value.slice B4 m4 d4, .int .u16 (y : Int), .int .u8 (mo : Int), .int .u8 (d : Int), .int .u8 (h : Int), .int .u8 (mi : Int), .int .u8 (s : Int), .int .u16 (y' : Int), .int .u8 (mo' : Int), .int .u8 (d' : Int), .int .u8 (h' : Int), .int .u8 (mi' : Int), .int .u8 (s' : Int), Value.slice B5 m5 d5, .int .u64 (ae : Int), Value.slice B6 m6 d6, .bool ca, .int .i64 path, .int .i64 usage, .bool code] 32)).alloc (.cells #[Value.slice A0 n0 c0, Value.slice A1 n1 c1, Value.slice A2 n2 c2, Value.slice A3 n3 c3, Value.slice A4 n4 c4, Value.slice A5 n5 c5, Value.slice A6 n6 c6] 22)).alloc (.cells #[Value.slice B0 m0 d0, Value.slice B1 m1 d1, Value.slice B2 m2 d2, Value.slice B3 m3 d3, Value.slice B4 m4 d4, Value.slice B5 m5 d5, Value.slice B6 m6 d6] 22)) := by (repeat (first | exact Below.refl _ _ | assumption | (refine Below.setCell ?_ (by first | omega | (simp; done) | (simp; omega)) _) | (refine Below.alloc ?_ (by first | omega | (simp; done) | (simp; omega)) _) | (refine below_drewN ?_ _) | (refine Below.drew ?_)))
  have hlen : cc.length = 7 := by rw [← hcc]; rfl
  rw [hcc] at H
  unfold CV.val CV.cells
  dsimp only
  go_enter Try.func18, Try.ntmps18
  go_wp2
  obtain ⟨W, hW⟩ : ∃ W, ((((w.alloc (.cells #[Value.slice A0 n0 c0, Value.slice A1 n1 c1, Value.slice A2 n2 c2, Value.slice A3 n3 c3, Value.slice A4 n4 c4, .int .u16 (y : Int), .int .u8 (mo : Int), .int .u8 (d : Int), .int .u8 (h : Int), .int .u8 (mi : Int), .int .u8 (s : Int), .int .u16 (y' : Int), .int .u8 (mo' : Int), .int .u8 (d' : Int), .int .u8 (h' : Int), .int .u8 (mi' : Int), .int .u8 (s' : Int), Value.slice A5 n5 c5, .int .u64 (ae : Int), Value.slice A6 n6 c6, .bool ca, .int .i64 path, .int .i64 usage, .bool code] 32)).alloc (.cells #[Value.slice B0 m0 d0, Value.slice B1 m1 d1, Value.slice B2 m2 d2, Value.slice B3 m3 d3, Value.slice B4 m4 d4, .int .u16 (y : Int), .int .u8 (mo : Int), .int .u8 (d : Int), .int .u8 (h : Int), .int .u8 (mi : Int), .int .u8 (s : Int), .int .u16 (y' : Int), .int .u8 (mo' : Int), .int .u8 (d' : Int), .int .u8 (h' : Int), .int .u8 (mi' : Int), .int .u8 (s' : Int), Value.slice B5 m5 d5, .int .u64 (ae : Int), Value.slice B6 m6 d6, .bool ca, .int .i64 path, .int .i64 usage, .bool code] 32)).alloc (.cells #[Value.slice A0 n0 c0, Value.slice A1 n1 c1, Value.slice A2 n2 c2, Value.slice A3 n3 c3, Value.slice A4 n4 c4, Value.slice A5 n5 c5, Value.slice A6 n6 c6] 22)).alloc (.cells #[Value.slice B0 m0 d0, Value.slice B1 m1 d1, Value.slice B2 m2 d2, Value.slice B3 m3 d3, Value.slice B4 m4 d4, Value.slice B5 m5 d5, Value.slice B6 m6 d6] 22)) = W := ⟨_, rfl⟩
  rw [hW] at hX hY hA hB hbw ⊢
  have hAl := hA.lt
  have hBl := hB.lt
  have HX := Lib.hid (And.intro hX (And.intro hY (And.intro hA (And.intro hB (And.intro hbw hlen)))))
  clear hW hX hY hA hB hbw hlen hcc
  go_loopw [7] (fun i wr => ∃ k : Nat, k ≤ 7 ∧ i = .int .i64 k ∧ Below W.heap.size W wr) (fun i _ => 7 - (intOf i).toNat)
  case atStart => exact ⟨0, by omega, rfl, Below.refl _ _⟩
  case round =>
    obtain ⟨k, hk, rfl, hb⟩ := hrel
    have hsz := hb.size
    by_cases hlt : k < 7
    · have hlt' : (k : Int) < 7 := by omega
      obtain ⟨⟨p1, p2, xs⟩, hp⟩ : ∃ p, cc[k]? = some p := ⟨_, List.getElem?_eq_getElem (by have := HX.out.2.2.2.2.2; omega)⟩
      obtain ⟨⟨P1, z1, f1, e1, r1⟩, ⟨P2, z2, f2, e2, r2⟩⟩ := H.out _ (List.mem_of_getElem? hp)
      dsimp only at e1 e2 r1 r2
      subst e1 e2
      have k0 : wr.cell? ⟨w.heap.size + 1 + 1, k, none⟩ = some (.slice P1 z1 f1) := (hb.cell (p := ⟨w.heap.size + 1 + 1, k, none⟩) hAl).trans (by rw [HX.out.2.2.1.cell k]; simp [hp])
      have k1 : wr.cell? ⟨w.heap.size + 1 + 1 + 1, k, none⟩ = some (.slice P2 z2 f2) := (hb.cell (p := ⟨w.heap.size + 1 + 1 + 1, k, none⟩) hBl).trans (by rw [HX.out.2.2.2.1.cell k]; simp [hp])
      have hbb := HX.out.2.2.2.2.1.trans (hb.mono HX.out.2.2.2.2.1.size)
      have HO := Lib.hid (And.intro hb (And.intro ((r1.below hbb).more hbb.size) ((r2.below hbb).more hbb.size)))
      clear hb hp r1 r2 hbb
      go_wp2
      go_quiet ((go_at_call 22; exact Calls.quiet_of_same (eqbytes_same _ _ _ _ _ _ _ _ _ _ (HO.out.2.1.drewN _) (HO.out.2.2.drewN _))))
      go_wp2
      go_roundw
      case rel => exact ⟨k + 1, by omega, by go_num, below_drewN HO.out.1 _⟩
      case measure => simp [intOf]; omega
    · obtain rfl : k = 7 := by omega
      have hge : ¬ (7 : Int) < 7 := by omega
      have hX := (HX.out.1.below hb HX.out.1.lt).cell
      have hY := (HX.out.2.1.below hb HX.out.2.1.lt).cell
      have HO := Lib.hid hb
      clear hb
      go_wp2
      go_ret
      exact ⟨by first | rfl | simp, HX.out.2.2.2.2.1.trans (HO.out.mono HX.out.2.2.2.2.1.size)⟩
end Go.Proofs.Ytmnekhliblkibaa
end

section
/- The contract of the reference's Int. -/
namespace Go.Proofs.Ytmnekhliblkibaa
open Go.RowKit
set_option maxRecDepth 100000

theorem refInt_whole (b o n c : Nat) (x0 : UInt8) (xs : List UInt8) (w : World) (h : Rd w w.heap.size (some ⟨b, o, none⟩) n c xs) (hn : n ≤ 1099511627776) (h0 : 0 < n)
    (hc0 : w.cell? ⟨b, o, none⟩ = some (.int .u8 (x0.toNat : Int))) (h8 : ¬ (128 : Int) ≤ x0.toNat) (hz : ((x0.toNat : Int) == 0) = false) (hx : Hid (Der.int xs = some xs)) :
    Calls Try.prog 24 #[.slice (some ⟨b, o, none⟩) n c] w (IntPost xs w) := by
  have hne : ((n : Int) == 0) = false := by simp; omega
  by_cases h1 : 1 < n
  · have h1' : (1 : Int) < n := by omega
    go_enter Try.func24, Try.ntmps24
    go_wp2_with fail
    refine (copy_any _ n c xs w h hn).mono ?_
    rintro e w1 ⟨A1, n1, c1, rfl, ho1, hb1⟩
    go_wp2
    go_ret2
    exact ⟨hb1, .inr ⟨_, _, _, _, hx.out, rfl, ho1⟩⟩
  · have h1' : ¬ (1 : Int) < n := by omega
    go_enter Try.func24, Try.ntmps24
    go_wp2_with fail
    refine (copy_any _ n c xs w h hn).mono ?_
    rintro e w1 ⟨A1, n1, c1, rfl, ho1, hb1⟩
    go_wp2
    go_ret2
    exact ⟨hb1, .inr ⟨_, _, _, _, hx.out, rfl, ho1⟩⟩

theorem refInt_big (b o n c : Nat) (x0 : UInt8) (xs : List UInt8) (w : World) (h0 : 0 < n)
    (hc0 : w.cell? ⟨b, o, none⟩ = some (.int .u8 (x0.toNat : Int))) (h8 : (128 : Int) ≤ x0.toNat) (hx : Hid (Der.int xs = none)) :
    Calls Try.prog 24 #[.slice (some ⟨b, o, none⟩) n c] w (IntPost xs w) := by
  have hne : ((n : Int) == 0) = false := by simp; omega
  go_enter Try.func24, Try.ntmps24
  go_wp2
  go_ret2
  exact ⟨Below.refl _ _, .inl ⟨hx.out, rfl⟩⟩

theorem refInt_nil (A : Option Addr) (c : Nat) (xs : List UInt8) (w : World) (hx : Hid (Der.int xs = none)) :
    Calls Try.prog 24 #[.slice A 0 c] w (IntPost xs w) := by
  go_enter Try.func24, Try.ntmps24
  go_wp2
  go_ret2
  exact ⟨Below.refl _ _, .inl ⟨hx.out, rfl⟩⟩

theorem refInt_needless (b o n c : Nat) (x1 : UInt8) (xs : List UInt8) (w : World) (h0 : 1 < n)
    (hc0 : w.cell? ⟨b, o, none⟩ = some (.int .u8 0)) (hc1 : w.cell? ⟨b, o + 1, none⟩ = some (.int .u8 (x1.toNat : Int))) (h8 : (x1.toNat : Int) < 128) (hx : Hid (Der.int xs = none)) :
    Calls Try.prog 24 #[.slice (some ⟨b, o, none⟩) n c] w (IntPost xs w) := by
  have hne : ((n : Int) == 0) = false := by simp; omega
  have h1' : (1 : Int) < n := by omega
  have h00 : 0 < n := by omega
  go_enter Try.func24, Try.ntmps24
  go_wp2
  go_ret2
  exact ⟨Below.refl _ _, .inl ⟨hx.out, rfl⟩⟩

theorem refInt_cut (b o n c : Nat) (xs : List UInt8) (w : World) (h : Rd w w.heap.size (some ⟨b, o, none⟩) n c xs) (hn : n ≤ 1099511627776) (h0 : 0 < n)
    (hc0 : w.cell? ⟨b, o, none⟩ = some (.int .u8 0)) (h8 : 1 < n → ∃ x1 : UInt8, w.cell? ⟨b, o + 1, none⟩ = some (.int .u8 (x1.toNat : Int)) ∧ ¬ (x1.toNat : Int) < 128) (hx : Hid (Der.int xs = some (xs.drop 1))) :
    Calls Try.prog 24 #[.slice (some ⟨b, o, none⟩) n c] w (IntPost xs w) := by
  have hne : ((n : Int) == 0) = false := by simp; omega
  obtain ⟨A1, hr1, _, hcut⟩ := run_cut_lo h 1 1 rfl (by omega)
  by_cases h1 : 1 < n
  · obtain ⟨x1, hc1, h9⟩ := h8 h1
    clear h8
    have h1' : (1 : Int) < n := by omega
    go_enter Try.func24, Try.ntmps24
    go_wp2_with fail
    refine (copy_any A1 (n - 1) (c - 1) _ w hr1 (by omega)).mono ?_
    rintro e w1 ⟨A1, n1, c1, rfl, ho1, hb1⟩
    go_wp2
    go_ret2
    exact ⟨hb1, .inr ⟨_, _, _, _, hx.out, rfl, ho1⟩⟩
  · clear h8
    have h1' : ¬ (1 : Int) < n := by omega
    go_enter Try.func24, Try.ntmps24
    go_wp2_with fail
    refine (copy_any A1 (n - 1) (c - 1) _ w hr1 (by omega)).mono ?_
    rintro e w1 ⟨A1, n1, c1, rfl, ho1, hb1⟩
    go_wp2
    go_ret2
    exact ⟨hb1, .inr ⟨_, _, _, _, hx.out, rfl, ho1⟩⟩

theorem refInt_any (A : Option Addr) (n c : Nat) (xs : List UInt8) (w : World) (h : Rd w w.heap.size A n c xs) (hn : n ≤ 1099511627776) :
    Calls Try.prog 24 #[.slice A n c] w (IntPost xs w) := by
  have hl := h.len
  rcases xs with _ | ⟨x0, r⟩
  · obtain rfl : n = 0 := by simpa using hl.symm
    exact refInt_nil A c [] w (Lib.hid rfl)
  have h0 : 0 < n := by simp at hl; omega
  obtain ⟨b, o, rfl, hb, hcell⟩ := h.at_ h0
  have hc0 := hcell 0 x0 rfl
  rw [Nat.add_zero] at hc0
  by_cases h8 : 128 ≤ x0.toNat
  · exact refInt_big b o n c x0 _ w h0 hc0 (by omega) (Lib.hid (by simp [Der.int, h8]))
  by_cases hz : x0.toNat = 0
  · rw [hz] at hc0
    rcases r with _ | ⟨x1, r⟩
    · exact refInt_cut b o n c _ w h hn h0 hc0 (fun h1 => by simp at hl; omega) (Lib.hid (by simp [Der.int, hz]))
    · have hc1 := hcell 1 x1 rfl
      by_cases h9 : x1.toNat < 128
      · exact refInt_needless b o n c x1 _ w (by simp at hl; omega) hc0 hc1 (by omega) (Lib.hid (by simp [Der.int, hz, h9]))
      · exact refInt_cut b o n c _ w h hn h0 hc0 (fun _ => ⟨x1, hc1, by omega⟩) (Lib.hid (by simp [Der.int, hz, h9]))
  · exact refInt_whole b o n c x0 _ w h hn h0 hc0 (by omega) (by simp; omega) (Lib.hid (by simp [Der.int, h8, hz]))
end Go.Proofs.Ytmnekhliblkibaa
end

section
/- Plain: Int of PutInt. -/
namespace Go.Proofs.Ytmnekhliblkibaa
open Go.RowKit
set_option maxRecDepth 100000

/-- Where the noughts end. -/
theorem trim_drop (xs : List UInt8) : ∃ F, F ≤ xs.length ∧ Der.trim xs = xs.drop F ∧ (∀ k, k < F → xs[k]? = some 0) ∧ ∀ x, xs[F]? = some x → x ≠ 0 := by
  induction xs with
  | nil => exact ⟨0, Nat.le_refl _, rfl, fun k h => by omega, fun x h => by simp at h⟩
  | cons x xs ih =>
    by_cases h : x = 0
    · subst h
      obtain ⟨F, h1, h2, h3, h4⟩ := ih
      refine ⟨F + 1, by simp; omega, by rw [trim_cons0, h2]; rfl, fun k hk => ?_, fun x hx => h4 x (by simpa using hx)⟩
      cases k with
      | zero => rfl
      | succ k => simpa using h3 k (by omega)
    · refine ⟨0, by omega, by rw [trim_stop xs h]; rfl, fun k h => by omega, fun y hy => ?_⟩
      simp at hy
      rw [← hy]; exact h
theorem int_putInt (xs : List UInt8) : Der.int (Der.putInt xs) = some (Der.trim xs) := by
  obtain ⟨F, h1, h2, h3, h4⟩ := trim_drop xs
  unfold Der.putInt
  cases hy : Der.trim xs with
  | nil => simp [Der.int]
  | cons y ys =>
    have hne : y ≠ 0 := h4 y (by
      have : (xs.drop F)[0]? = some y := by rw [← h2, hy]; rfl
      simpa using this)
    have hn0 : y.toNat ≠ 0 := fun e => hne (UInt8.toNat_inj.1 e)
    by_cases h : 128 ≤ y.toNat
    · rw [if_pos (.inr (by simpa using h))]
      simp only [Der.int]
      rw [if_neg (by simp), if_pos (by simp), if_neg (by omega)]
    · rw [if_neg (by simp; omega)]
      simp only [Der.int]
      rw [if_neg h, if_neg hn0]
end Go.Proofs.Ytmnekhliblkibaa
end
