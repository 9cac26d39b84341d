/- The contracts of the document's readers of moments, and that they tell what the program's do. -/
import Derived.Test.YtmnekhliblkibaaRC3
import Derived.BigQuiet
import Derived.BigRegion
import Derived.Deep.QuietTactic
namespace Go.Proofs.Ytmnekhliblkibaa
open Go.RowKit
set_option maxRecDepth 100000
set_option linter.unusedVariables false
set_option linter.unusedSimpArgs false

def RC.two (b : List UInt8) (k : Nat) : Nat := if (notDig (b.getD k 0) || notDig (b.getD (k + 1) 0)) = true then 100 else 10 * ((b.getD k 0).toNat - 48) + ((b.getD (k + 1) 0).toNat - 48)
def RC.tm (y : Nat) (b : List UInt8) (p : Nat) : Tm := ⟨y, RC.two b p, RC.two b (p + 2), RC.two b (p + 4), RC.two b (p + 6), RC.two b (p + 8)⟩
def RC.mom (y : Nat) (b : List UInt8) : Option Tm := if b.getD 10 0 = 90 ∧ Stamp.right (RC.tm y b 0) = true then some (RC.tm y b 0) else none
def RC.utc (b : List UInt8) : Option Tm := if b.length = 13 ∧ RC.two b 0 ≠ 100 then RC.mom (if 50 ≤ RC.two b 0 then 1900 + RC.two b 0 else 2000 + RC.two b 0) (b.drop 2) else none
def RC.general (b : List UInt8) : Option Tm := if b.length = 15 ∧ RC.two b 0 ≠ 100 ∧ RC.two b 2 ≠ 100 then RC.mom (100 * RC.two b 0 + RC.two b 2) (b.drop 4) else none

theorem two_le (b : List UInt8) (k : Nat) : RC.two b k ≤ 100 := by
  unfold RC.two
  split
  · omega
  · rename_i h
    simp only [Bool.or_eq_true, not_or, Bool.not_eq_true, notDig, Bool.or_eq_false_iff, decide_eq_false_iff_not] at h
    omega
theorem two_dig {b : List UInt8} {k : Nat} (h : RC.two b k ≠ 100) : notDig (b.getD k 0) = false ∧ notDig (b.getD (k + 1) 0) = false := by
  unfold RC.two at h
  split at h
  · exact absurd rfl h
  · rename_i h1
    simpa using h1
theorem two_eq {b : List UInt8} {k : Nat} (h1 : notDig (b.getD k 0) = false) (h2 : notDig (b.getD (k + 1) 0) = false) : RC.two b k = 10 * ((b.getD k 0).toNat - 48) + ((b.getD (k + 1) 0).toNat - 48) := by
  unfold RC.two
  rw [h1, h2]; rfl
theorem two_lt {b : List UInt8} {k : Nat} (h1 : notDig (b.getD k 0) = false) (h2 : notDig (b.getD (k + 1) 0) = false) : RC.two b k < 100 := by
  rw [two_eq h1 h2]
  simp only [notDig, Bool.or_eq_false_iff, decide_eq_false_iff_not] at h1 h2
  omega
theorem take2 {b : List UInt8} {k : Nat} (h : k + 2 ≤ b.length) : (b.drop k).take 2 = [b.getD k 0, b.getD (k + 1) 0] := by
  rw [List.drop_eq_getElem_cons (by omega), List.take_succ_cons, List.drop_eq_getElem_cons (by omega), List.take_succ_cons, List.take_zero]
  rw [List.getD_eq_getElem?_getD, List.getD_eq_getElem?_getD, List.getElem?_eq_getElem (by omega), List.getElem?_eq_getElem (by omega)]
  rfl
theorem two_at2 {b : List UInt8} {k : Nat} (h : k + 2 ≤ b.length) (h0 : RC.two b k ≠ 100) : RC.two b k = Stamp.at2 b k := by
  obtain ⟨h1, h2⟩ := two_dig h0
  rw [two_eq h1 h2]
  unfold Stamp.at2
  rw [take2 h]
  simp [Stamp.dig]
  omega
theorem two_drop (b : List UInt8) (p k : Nat) : RC.two (b.drop p) k = RC.two b (p + k) := by
  unfold RC.two
  simp only [List.getD_eq_getElem?_getD, List.getElem?_drop, Nat.add_assoc]
/-- A moment that is right was told by digits. -/
theorem tm_right {y : Nat} {b : List UInt8} {p : Nat} (h : Stamp.right (RC.tm y b p) = true) : RC.two b p ≠ 100 ∧ RC.two b (p + 2) ≠ 100 ∧ RC.two b (p + 4) ≠ 100 ∧ RC.two b (p + 6) ≠ 100 ∧ RC.two b (p + 8) ≠ 100 := by
  have hm := right_md h
  have h1 := hm.1
  have h2 := hm.2
  simp only [RC.tm, Stamp.right, Bool.and_eq_true, decide_eq_true_eq] at h
  have e1 : (RC.tm y b p).mo = RC.two b p := rfl
  have e2 : (RC.tm y b p).d = RC.two b (p + 2) := rfl
  rw [e2] at h1
  rw [e1] at h2
  obtain ⟨⟨⟨⟨_, _⟩, h4⟩, h5⟩, h6⟩ := h
  have g4 : RC.two b (p + 4) < 24 := of_decide_eq_true h4
  have g5 : RC.two b (p + 6) < 60 := of_decide_eq_true h5
  have g6 : RC.two b (p + 8) < 60 := of_decide_eq_true h6
  refine ⟨by omega, by omega, by omega, by omega, by omega⟩
theorem any_digs {b : List UInt8} {m : Nat} (hm : m ≤ b.length) : (b.take m).any notDig = false ↔ ∀ k, k < m → notDig (b.getD k 0) = false := by
  rw [List.any_eq_false]
  constructor
  · intro h k hk
    have := h (b.getD k 0) (by
      rw [List.getD_eq_getElem?_getD, List.getElem?_eq_getElem (by omega), Option.getD_some]
      rw [List.mem_take_iff_getElem]
      exact ⟨k, by omega, rfl⟩)
    simpa using this
  · intro h x hx
    obtain ⟨k, hk, rfl⟩ := List.mem_take_iff_getElem.1 hx
    have := h k (by omega)
    rw [List.getD_eq_getElem?_getD, List.getElem?_eq_getElem (by omega), Option.getD_some] at this
    simpa using this
theorem getD_some_iff {b : List UInt8} {k : Nat} (hk : k < b.length) (x : UInt8) : b.getD k 0 = x ↔ b[k]? = some x := by
  rw [List.getD_eq_getElem?_getD, List.getElem?_eq_getElem hk, Option.getD_some]
  exact ⟨fun h => by rw [h], fun h => Option.some.inj h⟩
theorem right_of_tm {n : Nat} {f : Nat → Nat} {b : List UInt8} (hb : b.length = n + 11) (h : (b.take (n + 10)).any notDig = false) : ∀ Y : Nat, Y = f (Stamp.dig ((b.drop 0).take n)) → RC.tm Y b n = Stamp.tm n f b := by
  intro Y hY
  have hd := (any_digs (by omega)).1 h
  have key : ∀ k, k + 2 ≤ n + 10 → RC.two b k = Stamp.at2 b k := fun k hk =>
    two_at2 (by omega) (by have := two_lt (hd k (by omega)) (hd (k + 1) (by omega)); omega)
  unfold RC.tm Stamp.tm
  rw [key n (by omega), key (n + 2) (by omega), key (n + 4) (by omega), key (n + 6) (by omega), key (n + 8) (by omega), hY]
theorem tm_drop (y p : Nat) (b : List UInt8) : RC.tm y (b.drop p) 0 = RC.tm y b p := by
  unfold RC.tm
  simp only [two_drop, Nat.zero_add, Nat.add_zero]
theorem told_tm {n : Nat} {f : Nat → Nat} {b : List UInt8} (Y : Nat) (hn : n = 2 ∨ n = 4) (hY : (b.take n).any notDig = false → Y = f (Stamp.dig ((b.drop 0).take n))) (hb : b.length = n + 11) (hd0 : (b.take n).any notDig = false) :
    RC.mom Y (b.drop n) = Stamp.told n f b := by
  unfold RC.mom Stamp.told
  rw [tm_drop]
  have e90 : (b.drop n).getD 10 0 = 90 ↔ b[n + 10]? = some 90 := by
    rw [List.getD_eq_getElem?_getD, List.getElem?_drop, ← List.getD_eq_getElem?_getD]
    exact getD_some_iff (by omega) 90
  by_cases h : (b.take (n + 10)).any notDig = false
  · rw [right_of_tm hb h Y (hY hd0)]
    by_cases h9 : b[n + 10]? = some 90
    · by_cases hr : Stamp.right (Stamp.tm n f b) = true
      · rw [if_pos ⟨e90.2 h9, hr⟩, if_pos ⟨hb, h9, h, hr⟩]
      · rw [if_neg (fun h => hr h.2), if_neg (fun h => hr h.2.2.2)]
    · rw [if_neg (fun h => h9 (e90.1 h.1)), if_neg (fun h => h9 h.2.1)]
  · rw [if_neg (c := b.length = n + 11 ∧ b[n + 10]? = some 90 ∧ (b.take (n + 10)).any notDig = false ∧ Stamp.right (Stamp.tm n f b) = true) (fun hh => h hh.2.2.1), if_neg]
    rintro ⟨_, hr⟩
    obtain ⟨h0, h2, h4, h6, h8⟩ := tm_right hr
    apply h
    have hd := (any_digs (m := n) (by omega)).1 hd0
    rw [any_digs (by omega)]
    intro k hk
    have d0 := two_dig h0
    have d2 := two_dig h2
    have d4 := two_dig h4
    have d6 := two_dig h6
    have d8 := two_dig h8
    rcases Nat.lt_or_ge k n with hlt | hge
    · exact hd k hlt
    · obtain ⟨j, rfl⟩ : ∃ j, k = n + j := ⟨k - n, by omega⟩
      have hj : j < 10 := by omega
      match j, hj with
      | 0, _ => exact d0.1
      | 1, _ => exact d0.2
      | 2, _ => exact d2.1
      | 3, _ => exact d2.2
      | 4, _ => exact d4.1
      | 5, _ => exact d4.2
      | 6, _ => exact d6.1
      | 7, _ => exact d6.2
      | 8, _ => exact d8.1
      | 9, _ => exact d8.2
theorem utc_eq (b : List UInt8) : RC.utc b = Stamp.told 2 Stamp.year2 b := by
  unfold RC.utc
  by_cases hb : b.length = 13
  · by_cases h0 : RC.two b 0 = 100
    · rw [if_neg (fun h => h.2 h0)]
      unfold Stamp.told
      rw [if_neg]
      rintro ⟨_, _, h, _⟩
      have hd := (any_digs (m := 12) (by omega)).1 h
      have := two_lt (hd 0 (by omega)) (hd 1 (by omega))
      omega
    · rw [if_pos ⟨hb, h0⟩]
      obtain ⟨d0, d1⟩ := two_dig h0
      refine told_tm _ (.inl rfl) (fun _ => ?_) (by omega) ?_
      · rw [two_at2 (by omega) h0]; rfl
      · rw [any_digs (by omega)]
        intro k hk
        match k, hk with
        | 0, _ => exact d0
        | 1, _ => exact d1
  · rw [if_neg (fun h => hb h.1)]
    unfold Stamp.told
    rw [if_neg (fun h => hb h.1)]
theorem general_eq (b : List UInt8) : RC.general b = Stamp.told 4 id b := by
  unfold RC.general
  by_cases hb : b.length = 15
  · by_cases h0 : RC.two b 0 = 100
    · rw [if_neg (fun h => h.2.1 h0)]
      unfold Stamp.told
      rw [if_neg]
      rintro ⟨_, _, h, _⟩
      have hd := (any_digs (m := 14) (by omega)).1 h
      have := two_lt (hd 0 (by omega)) (hd 1 (by omega))
      omega
    · by_cases h2 : RC.two b 2 = 100
      · rw [if_neg (fun h => h.2.2 h2)]
        unfold Stamp.told
        rw [if_neg]
        rintro ⟨_, _, h, _⟩
        have hd := (any_digs (m := 14) (by omega)).1 h
        have := two_lt (hd 2 (by omega)) (hd 3 (by omega))
        omega
      · rw [if_pos ⟨hb, h0, h2⟩]
        obtain ⟨d0, d1⟩ := two_dig h0
        obtain ⟨d2, d3⟩ := two_dig h2
        refine told_tm _ (.inr rfl) (fun _ => ?_) (by omega) ?_
        · rw [two_eq d0 d1, two_eq d2 d3, show (b.drop 0).take 4 = [b.getD 0 0, b.getD 1 0, b.getD 2 0, b.getD 3 0] from by
            rw [show (4 : Nat) = 2 + 2 from rfl, List.take_add, List.drop_drop, take2 (by omega), take2 (by omega)]; rfl]
          simp [Stamp.dig]
          omega
        · rw [any_digs (by omega)]
          intro k hk
          match k, hk with
          | 0, _ => exact d0
          | 1, _ => exact d1
          | 2, _ => exact d2
          | 3, _ => exact d3
  · rw [if_neg (fun h => hb h.1)]
    unfold Stamp.told
    rw [if_neg (fun h => hb h.1)]

/-! The walks. -/
/-- A number told, some order drawn. -/
def TwoQ (x : Nat) (w : World) (e : Ending) (w' : World) : Prop := e = .returned (.int .i64 (x : Int)) ∧ ∃ z, w' = w.drewN z
theorem rtwo_any (A : Option Addr) (n c : Nat) (b : List UInt8) (k : Nat) (w : World) (h : Rd w w.heap.size A n c b) (hk : k + 2 ≤ n) (hn : n ≤ 1000) :
    Calls Try.prog 106 #[.slice A n c, .int .i64 (k : Int)] w (TwoQ (RC.two b k) w) := by
  have hl := h.len
  obtain ⟨g, o, rfl, hg, hcell⟩ := h.at_ (by omega)
  obtain ⟨x, hx⟩ : ∃ x, b[k]? = some x := ⟨_, List.getElem?_eq_getElem (by omega)⟩
  obtain ⟨y, hy⟩ : ∃ y, b[k + 1]? = some y := ⟨_, List.getElem?_eq_getElem (by omega)⟩
  have hcx := hcell k x hx
  have hcy := hcell (k + 1) y hy
  have gx : b.getD k 0 = x := by rw [List.getD_eq_getElem?_getD, hx]; rfl
  have gy : b.getD (k + 1) 0 = y := by rw [List.getD_eq_getElem?_getD, hy]; rfl
  have hxl := x.toNat_lt
  have hyl := y.toNat_lt
  have hsp : ∀ V : Nat, V = (if (notDig x || notDig y) = true then 100 else 10 * (x.toNat - 48) + (y.toNat - 48)) → RC.two b k = V := by
    rintro V rfl
    unfold RC.two
    rw [gx, gy]
  have HS := Lib.hid hsp
  clear hsp gx gy hx hy hl h hcell
  go_enter Try.func106, Try.ntmps106
  go_wp2
  go_loopw [5] (fun i wr => ∃ j : Nat, j ≤ 2 ∧ i = .int .i64 ((k + j : Nat) : Int) ∧ wr = w ∧ (0 < j → notDig x = false) ∧ (1 < j → notDig y = false)) (fun i _ => k + 2 - (intOf i).toNat)
  case atStart => exact ⟨0, by omega, by simp, rfl, by simp, by simp⟩
  case round =>
    obtain ⟨j, hj, rfl, rfl, d0, d1⟩ := hrel
    have hkw : IntKind.i64.wrap ((k : Int) + 2) = (k : Int) + 2 := IntWalk.i64_in _ (by omega)
    match j, hj with
    | 0, _ =>
      have hlt : (k : Int) < (k : Int) + 2 := by omega
      by_cases h1 : (x.toNat : Int) < 48
      · have e := HS.out 100 (by rw [if_pos (by simp [notDig]; omega)])
        have HE := Lib.hid e
        clear e d0 d1
        simp only [Nat.add_zero]
        go_wp2
        go_ret
        exact ⟨by rw [HE.out]; rfl, 0, rfl⟩
      · by_cases h2 : (57 : Int) < x.toNat
        · have e := HS.out 100 (by rw [if_pos (by simp [notDig]; omega)])
          have HE := Lib.hid e
          clear e d0 d1
          simp only [Nat.add_zero]
          go_wp2
          go_ret
          exact ⟨by rw [HE.out]; rfl, 0, rfl⟩
        · have e : notDig x = false := by simp [notDig]; omega
          have HE := Lib.hid e
          clear e d0 d1
          simp only [Nat.add_zero]
          go_wp2
          go_roundw
          case rel => exact ⟨1, by omega, by go_num, by first | rfl | trivial, fun _ => HE.out, fun h => absurd h (by omega)⟩
          case measure => (first | (simp [intOf]; done) | (simp [intOf]; omega))
    | 1, _ =>
      have hlt : (k : Int) + 1 < (k : Int) + 2 := by omega
      have ek : ((k + 1 : Nat) : Int) = (k : Int) + 1 := by omega
      by_cases h1 : (y.toNat : Int) < 48
      · have e := HS.out 100 (by rw [if_pos (by simp [notDig]; omega)])
        have HE := Lib.hid e
        clear e d0 d1
        go_wp2
        go_ret
        exact ⟨by rw [HE.out]; rfl, 0, rfl⟩
      · by_cases h2 : (57 : Int) < y.toNat
        · have e := HS.out 100 (by rw [if_pos (by simp [notDig]; omega)])
          have HE := Lib.hid e
          clear e d0 d1
          go_wp2
          go_ret
          exact ⟨by rw [HE.out]; rfl, 0, rfl⟩
        · have e : notDig y = false := by simp [notDig]; omega
          have HE := Lib.hid (And.intro e (d0 (by omega)))
          clear e d0 d1
          go_wp2
          go_roundw
          case rel => exact ⟨2, by omega, by go_num, by first | rfl | trivial, fun _ => HE.out.2, fun _ => HE.out.1⟩
          case measure => (first | (simp [intOf]; done) | (simp [intOf]; omega))
    | 2, _ =>
      have e0 := d0 (by omega)
      have e1 := d1 (by omega)
      have hge : ¬ (k : Int) + 2 < (k : Int) + 2 := by omega
      have f0 : 48 ≤ x.toNat ∧ x.toNat ≤ 57 := by simp [notDig] at e0; omega
      have f1 : 48 ≤ y.toNat ∧ y.toNat ≤ 57 := by simp [notDig] at e1; omega
      have HE := Lib.hid (HS.out (10 * (x.toNat - 48) + (y.toNat - 48)) (by rw [e0, e1]; rfl))
      clear e0 e1 d0 d1
      have u1 : IntKind.u8.wrap ((x.toNat : Int) - 48) = (x.toNat : Int) - 48 := by rw [IntKind.wrap_u8]; omega
      have u2 : IntKind.u8.wrap ((y.toNat : Int) - 48) = (y.toNat : Int) - 48 := by rw [IntKind.wrap_u8]; omega
      have i1 : IntKind.i64.wrap ((x.toNat : Int) - 48) = (x.toNat : Int) - 48 := IntWalk.i64_in _ (by omega)
      have i2 : IntKind.i64.wrap ((y.toNat : Int) - 48) = (y.toNat : Int) - 48 := IntWalk.i64_in _ (by omega)
      have i3 : IntKind.i64.wrap (10 * ((x.toNat : Int) - 48)) = 10 * ((x.toNat : Int) - 48) := IntWalk.i64_in _ (by omega)
      have i4 : IntKind.i64.wrap (10 * ((x.toNat : Int) - 48) + ((y.toNat : Int) - 48)) = 10 * ((x.toNat : Int) - 48) + ((y.toNat : Int) - 48) := IntWalk.i64_in _ (by omega)
      have hk1 : IntKind.i64.wrap ((k : Int) + 1) = (k : Int) + 1 := IntWalk.i64_in _ (by omega)
      have hp0 : (0 : Int) ≤ (k : Int) + 1 := by omega
      have hp1 : (k : Int) + 1 < n := by omega
      have hp2 : (k : Int) < n := by omega
      have hp3 : ((k : Int) + 1).toNat = k + 1 := by omega
      have hp4 : k < n ∧ k + 1 < n := by omega
      go_wp2
      go_quiet (fail)
      go_wp2
      go_ret
      exact ⟨by rw [HE.out]; go_num, _, rfl⟩

def TwoB (x : Nat) (w : World) (e : Ending) (w' : World) : Prop := e = .returned (.int .i64 (x : Int)) ∧ Below w.heap.size w w'
theorem rtwo_b (A : Option Addr) (n c : Nat) (b : List UInt8) (k : Nat) (w : World) (h : Rd w w.heap.size A n c b) (hk : k + 2 ≤ n) (hn : n ≤ 1000) :
    Calls Try.prog 106 #[.slice A n c, .int .i64 (k : Int)] w (TwoB (RC.two b k) w) :=
  (rtwo_any A n c b k w h hk hn).mono fun e w' ⟨he, z, hz⟩ => ⟨he, by rw [hz]; exact below_drewN (Below.refl _ _) z⟩
theorem u8_100 {x : Nat} (h : x ≤ 100) : IntKind.u8.wrap (x : Int) = (x : Int) := by rw [IntKind.wrap_u8]; omega

set_option maxHeartbeats 2000000 in
theorem rmoment_any (y : Nat) (hy : y < 65536) (A : Option Addr) (c : Nat) (b : List UInt8) (w : World) (h : Rd w w.heap.size A 11 c b) :
    Calls Try.prog 107 #[.int .i64 (y : Int), .slice A 11 c] w (ToldPost (RC.mom y b) w) := by
  have hl := h.len
  have hb0 := Blk.new w 27 #[.int .u16 0, .int .u8 0, .int .u8 0, .int .u8 0, .int .u8 0, .int .u8 0]
  have h0 : Below w.heap.size w (w.alloc (.cells #[.int .u16 0, .int .u8 0, .int .u8 0, .int .u8 0, .int .u8 0, .int .u8 0] 27)) := by (repeat (first | exact Below.refl _ _ | assumption | (refine Below.setCell ?_ (by first | omega | (simp; done) | (simp; omega)) _) | (refine Below.alloc ?_ (by first | omega | (simp; done) | (simp; omega)) _) | (refine below_drewN ?_ _) | (refine Below.drew ?_)))
  obtain ⟨x, hx⟩ : ∃ x, b[10]? = some x := ⟨_, List.getElem?_eq_getElem (by omega)⟩
  have hx10 : b.getD 10 0 = x := by rw [List.getD_eq_getElem?_getD, hx]; rfl
  obtain ⟨T0, t0⟩ : ∃ T, RC.two b 0 = T := ⟨_, rfl⟩
  obtain ⟨T1, t1⟩ : ∃ T, RC.two b 2 = T := ⟨_, rfl⟩
  obtain ⟨T2, t2⟩ : ∃ T, RC.two b 4 = T := ⟨_, rfl⟩
  obtain ⟨T3, t3⟩ : ∃ T, RC.two b 6 = T := ⟨_, rfl⟩
  obtain ⟨T4, t4⟩ : ∃ T, RC.two b 8 = T := ⟨_, rfl⟩
  have l0 : T0 ≤ 100 := t0 ▸ two_le b 0
  have l1 : T1 ≤ 100 := t1 ▸ two_le b 2
  have l2 : T2 ≤ 100 := t2 ▸ two_le b 4
  have l3 : T3 ≤ 100 := t3 ▸ two_le b 6
  have l4 : T4 ≤ 100 := t4 ▸ two_le b 8
  have HS : Hid (RC.mom y b = if x = 90 ∧ Stamp.right ⟨y, T0, T1, T2, T3, T4⟩ = true then some ⟨y, T0, T1, T2, T3, T4⟩ else none) := Lib.hid (by
    unfold RC.mom RC.tm
    rw [hx10, t0, t1, t2, t3, t4])
  have HT := Lib.hid (And.intro t0 (And.intro t1 (And.intro t2 (And.intro t3 t4))))
  have HL := Lib.hid (And.intro hl hx)
  clear hx10 t0 t1 t2 t3 t4 hl hx
  have e0 := u8_100 l0
  have e1 := u8_100 l1
  have e2 := u8_100 l2
  have e3 := u8_100 l3
  have e4 := u8_100 l4
  have ey : IntKind.u16.wrap (y : Int) = (y : Int) := by rw [IntKind.wrap_u16]; omega
  go_enter Try.func107, Try.ntmps107
  go_wp2_with fail
  refine (rtwo_b A 11 c b 0 _ (h.up h0) (by omega) (by omega)).mono ?_
  rw [HT.out.1]
  rintro e w1 ⟨rfl, hb1⟩
  have g1 := h0.trans (hb1.mono h0.size)
  have q1 := hb0.below hb1 (by simp)
  clear hb1 h0 hb0
  go_wp2_with fail
  refine (rtwo_b A 11 c b 2 _ (h.up g1) (by omega) (by omega)).mono ?_
  rw [HT.out.2.1]
  rintro e w2 ⟨rfl, hb2⟩
  have g2 := g1.trans (hb2.mono g1.size)
  have q2 := q1.below hb2 q1.lt
  clear hb2 g1 q1
  go_wp2_with fail
  refine (rtwo_b A 11 c b 4 _ (h.up g2) (by omega) (by omega)).mono ?_
  rw [HT.out.2.2.1]
  rintro e w3 ⟨rfl, hb3⟩
  have g3 := g2.trans (hb3.mono g2.size)
  have q3 := q2.below hb3 q2.lt
  clear hb3 g2 q2
  go_wp2_with fail
  refine (rtwo_b A 11 c b 6 _ (h.up g3) (by omega) (by omega)).mono ?_
  rw [HT.out.2.2.2.1]
  rintro e w4 ⟨rfl, hb4⟩
  have g4 := g3.trans (hb4.mono g3.size)
  have q4 := q3.below hb4 q3.lt
  clear hb4 g3 q3
  go_wp2_with fail
  refine (rtwo_b A 11 c b 8 _ (h.up g4) (by omega) (by omega)).mono ?_
  rw [HT.out.2.2.2.2]
  rintro e w5 ⟨rfl, hb5⟩
  have g5 := g4.trans (hb5.mono g4.size)
  have q5 := q4.below hb5 q4.lt
  clear hb5 g4 q4
  obtain ⟨g, o, rfl, hg, hcell⟩ := (h.up g5).at_ (by omega)
  have hcx := hcell 10 x HL.out.2
  clear hcell h
  have hxl := x.toNat_lt
  have hsz := g5.size
  have hlt := q5.lt
  have qt := Blk.new w5 27 #[.int .u16 (y : Int), .int .u8 (T0 : Int), .int .u8 (T1 : Int), .int .u8 (T2 : Int), .int .u8 (T3 : Int), .int .u8 (T4 : Int)]
  have qr := q5.alloc (.cells #[.int .u16 (y : Int), .int .u8 (T0 : Int), .int .u8 (T1 : Int), .int .u8 (T2 : Int), .int .u8 (T3 : Int), .int .u8 (T4 : Int)] 27)
  have gr := g5.alloc hsz (.cells #[.int .u16 (y : Int), .int .u8 (T0 : Int), .int .u8 (T1 : Int), .int .u8 (T2 : Int), .int .u8 (T3 : Int), .int .u8 (T4 : Int)] 27)
  have hcx' : (w5.alloc (.cells #[.int .u16 (y : Int), .int .u8 (T0 : Int), .int .u8 (T1 : Int), .int .u8 (T2 : Int), .int .u8 (T3 : Int), .int .u8 (T4 : Int)] 27)).cell? ⟨g, o + 10, none⟩ = some (.int .u8 (x.toNat : Int)) := by
    rw [World.cell?_alloc_lt _ _ _ (by exact hg)]; exact hcx
  have HR := Lib.hid (And.intro qt (And.intro qr gr))
  clear qt qr gr q5 g5 hcx
  go_upto_region 2 with fail
  obtain ⟨W, hW⟩ : ∃ W, w5.alloc (.cells #[.int .u16 (y : Int), .int .u8 (T0 : Int), .int .u8 (T1 : Int), .int .u8 (T2 : Int), .int .u8 (T3 : Int), .int .u8 (T4 : Int)] 27) = W := ⟨_, rfl⟩
  rw [hW] at HR hcx' ⊢
  clear hW
  obtain ⟨B5, hB5⟩ : ∃ B5, w5.heap.size = B5 := ⟨_, rfl⟩
  rw [hB5] at HR ⊢
  have hne5 : w.heap.size ≠ B5 := by omega
  clear hB5 hlt hg hsz
  -- refused
  have bad : ∀ (Wx : World) (tmps : Array Value), Below W.heap.size W Wx → RC.mom y b = none → tmps.getD 4 undef = .pointer (some ⟨w.heap.size, 0, none⟩) → tmps.getD 5 undef = .bool false →
      bodyPost Try.prog Try.f107 (ToldPost (RC.mom y b) w) .ret { tmps := tmps, defers := [] } ((((((Wx.setCell ⟨w.heap.size, 0, none⟩ (.int .u16 0)).setCell ⟨w.heap.size, 1, none⟩ (.int .u8 0)).setCell ⟨w.heap.size, 2, none⟩ (.int .u8 0)).setCell ⟨w.heap.size, 3, none⟩ (.int .u8 0)).setCell ⟨w.heap.size, 4, none⟩ (.int .u8 0)).setCell ⟨w.heap.size, 5, none⟩ (.int .u8 0)) := by
    intro Wx tmps hbx hno h4 h5
    have e4 := (((((((HR.out.2.1.below hbx HR.out.2.1.lt).set_ 0 (.int .u16 0)).set_ 1 (.int .u8 0)).set_ 2 (.int .u8 0)).set_ 3 (.int .u8 0)).set_ 4 (.int .u8 0)).set_ 5 (.int .u8 0))
    have hld := load_time _ _ _ _ _ _ _ _ e4
    refine bodyPost_ret (results_cell_tmp rfl _ _ _ _ _ h4 hld) rfl ?_
    rw [h5]
    refine ⟨?_, .inl ⟨hno, rfl⟩⟩
    have hbw := HR.out.2.2.trans (hbx.mono HR.out.2.2.size)
    exact ((((((hbw.setCell (by dsimp only; omega) _).setCell (by dsimp only; omega) _).setCell (by dsimp only; omega) _).setCell (by dsimp only; omega) _).setCell (by dsimp only; omega) _).setCell (by dsimp only; omega) _)
  have BAD := Lib.hid bad
  clear bad
  obtain ⟨k0, k1⟩ := HR.out.1.facts
  obtain ⟨r0, r1⟩ := HR.out.2.1.facts
  by_cases h9 : x = 90
  · subst h9
    have hcx'' : W.cell? ⟨g, o + 10, none⟩ = some (.int .u8 90) := hcx'
    clear hcx'
    go_wp2_with fail
    refine (rright_any ⟨y, T0, T1, T2, T3, T4⟩ _ ⟨hy, by unfold Tm.ok8; dsimp only; omega⟩).mono ?_
    rintro e w6 ⟨rfl, hb6⟩
    obtain ⟨q, hq⟩ : ∃ q, Stamp.right ⟨y, T0, T1, T2, T3, T4⟩ = q := ⟨_, rfl⟩
    rw [hq]
    have HQ := Lib.hid (And.intro hq hb6)
    clear k0 k1 r0 r1 hcx'' hq
    have q6 := HR.out.1.below hb6 HR.out.1.lt
    have qr6 := HR.out.2.1.below hb6 HR.out.2.1.lt
    obtain ⟨k0, k1⟩ := q6.facts
    obtain ⟨r0, r1⟩ := qr6.facts
    have HX := Lib.hid (And.intro q6 qr6)
    clear hb6 q6 qr6
    cases q with
    | false =>
      go_wp2
      refine BAD.out w6 _ HQ.out.2 ?_ rfl rfl
      rw [HS.out, if_neg (by rw [HQ.out.1]; simp)]
    | true =>
      go_wp2
      have e4 := ((((((HX.out.2.set_ 0 (.int .u16 (y : Int))).set_ 1 (.int .u8 (T0 : Int))).set_ 2 (.int .u8 (T1 : Int))).set_ 3 (.int .u8 (T2 : Int))).set_ 4 (.int .u8 (T3 : Int))).set_ 5 (.int .u8 (T4 : Int)))
      have hld := load_time _ _ _ _ _ _ _ _ e4
      refine bodyPost_ret (results_cell_tmp rfl _ _ _ _ _ rfl hld) rfl ?_
      refine ⟨?_, .inr ⟨⟨y, T0, T1, T2, T3, T4⟩, by rw [HS.out, if_pos ⟨by first | rfl | trivial, HQ.out.1⟩], rfl⟩⟩
      have hbw := HR.out.2.2.trans (HQ.out.2.mono HR.out.2.2.size)
      exact ((((((hbw.setCell (by dsimp only; omega) _).setCell (by dsimp only; omega) _).setCell (by dsimp only; omega) _).setCell (by dsimp only; omega) _).setCell (by dsimp only; omega) _).setCell (by dsimp only; omega) _)
  · have hne : ((x.toNat : Int) == 90) = false := by
      have : x.toNat ≠ 90 := fun e => h9 (UInt8.toNat_inj.1 e)
      simp; omega
    have hne2 : ((x.toNat : Int) != 90) = true := by rw [bne, hne]; rfl
    have HN := Lib.hid h9
    clear h9 hne
    go_wp2
    have hbr := Below.refl W.heap.size W
    refine BAD.out W _ hbr ?_ ?_ ?_
    · rw [HS.out, if_neg (fun h => HN.out h.1)]
    · rfl
    · rfl

set_option maxHeartbeats 4000000 in
theorem rutc_any (A : Option Addr) (n c : Nat) (b : List UInt8) (w : World) (h : Rd w w.heap.size A n c b) :
    Calls Try.prog 97 #[.slice A n c] w (ToldPost (Stamp.told 2 Stamp.year2 b) w) := by
  rw [← utc_eq]
  have hl := h.len
  have hb0 := Blk.new w 27 #[.int .u16 0, .int .u8 0, .int .u8 0, .int .u8 0, .int .u8 0, .int .u8 0]
  have g0 : Below w.heap.size w (w.alloc (.cells #[.int .u16 0, .int .u8 0, .int .u8 0, .int .u8 0, .int .u8 0, .int .u8 0] 27)) := by (repeat (first | exact Below.refl _ _ | assumption | (refine Below.setCell ?_ (by first | omega | (simp; done) | (simp; omega)) _) | (refine Below.alloc ?_ (by first | omega | (simp; done) | (simp; omega)) _) | (refine below_drewN ?_ _) | (refine Below.drew ?_)))
  obtain ⟨o, ho⟩ : ∃ o, RC.utc b = o := ⟨_, rfl⟩
  -- refused
  have bad : ∀ (Wx : World) (tmps : Array Value), Blk Wx w.heap.size 27 #[.int .u16 0, .int .u8 0, .int .u8 0, .int .u8 0, .int .u8 0, .int .u8 0] → Below w.heap.size w Wx → RC.utc b = none → tmps.getD 2 undef = .pointer (some ⟨w.heap.size, 0, none⟩) → tmps.getD 3 undef = .bool false →
      bodyPost Try.prog Try.f97 (ToldPost (RC.utc b) w) .ret { tmps := tmps, defers := [] } ((((((Wx.setCell ⟨w.heap.size, 0, none⟩ (.int .u16 0)).setCell ⟨w.heap.size, 1, none⟩ (.int .u8 0)).setCell ⟨w.heap.size, 2, none⟩ (.int .u8 0)).setCell ⟨w.heap.size, 3, none⟩ (.int .u8 0)).setCell ⟨w.heap.size, 4, none⟩ (.int .u8 0)).setCell ⟨w.heap.size, 5, none⟩ (.int .u8 0)) := by
    intro Wx tmps hbx hbw hno h4 h5
    have e4 := ((((((hbx.set_ 0 (.int .u16 0)).set_ 1 (.int .u8 0)).set_ 2 (.int .u8 0)).set_ 3 (.int .u8 0)).set_ 4 (.int .u8 0)).set_ 5 (.int .u8 0))
    have hld := load_time _ _ _ _ _ _ _ _ e4
    refine bodyPost_ret (results_cell_tmp rfl _ _ _ _ _ h4 hld) rfl ?_
    rw [h5]
    refine ⟨?_, .inl ⟨hno, rfl⟩⟩
    exact ((((((hbw.setCell (by dsimp only; omega) _).setCell (by dsimp only; omega) _).setCell (by dsimp only; omega) _).setCell (by dsimp only; omega) _).setCell (by dsimp only; omega) _).setCell (by dsimp only; omega) _)
  have BAD := Lib.hid bad
  clear bad
  obtain ⟨r0, r1⟩ := hb0.facts
  have H := Lib.hid (And.intro h (And.intro hl (And.intro hb0 g0)))
  clear h hl hb0 g0
  go_enter Try.func97, Try.ntmps97
  by_cases h13 : n = 13
  · subst h13
    obtain ⟨T0, t0⟩ : ∃ T, RC.two b 0 = T := ⟨_, rfl⟩
    have l0 : T0 ≤ 100 := t0 ▸ two_le b 0
    have HT := Lib.hid t0
    clear t0
    go_wp2_with fail
    refine (rtwo_b A 13 c b 0 _ (H.out.1.up H.out.2.2.2) (by omega) (by omega)).mono ?_
    rw [HT.out]
    rintro e w1 ⟨rfl, hb1⟩
    have g1 := H.out.2.2.2.trans (hb1.mono H.out.2.2.2.size)
    have q1 := H.out.2.2.1.below hb1 (by simp)
    have H1 := Lib.hid (And.intro g1 q1)
    clear hb1 g1 q1 r0 r1
    obtain ⟨r0, r1⟩ := H1.out.2.facts
    by_cases h100 : T0 = 100
    · subst h100
      go_wp2
      refine BAD.out w1 _ H1.out.2 H1.out.1 ?_ rfl rfl
      unfold RC.utc
      rw [if_neg (fun h => h.2 HT.out)]
    · have hne : ((T0 : Int) == 100) = false := by simp; omega
      have HS : Hid (RC.utc b = RC.mom (if 50 ≤ T0 then 1900 + T0 else 2000 + T0) (b.drop 2)) := Lib.hid (by unfold RC.utc; rw [if_pos ⟨H.out.2.1, by rw [HT.out]; exact h100⟩, HT.out])
      clear h100
      go_wp2_with fail
      refine (rtwo_b A 13 c b 0 _ (H.out.1.up H1.out.1) (by omega) (by omega)).mono ?_
      rw [HT.out]
      rintro e w2 ⟨rfl, hb2⟩
      have g2 := H1.out.1.trans (hb2.mono H1.out.1.size)
      have q2 := H1.out.2.below hb2 H1.out.2.lt
      have H2 := Lib.hid (And.intro g2 q2)
      clear hb2 g2 q2 r0 r1
      obtain ⟨A1, hr1, _, hcut⟩ := run_cut_lo (H.out.1.up H2.out.1) 2 2 rfl (by omega)
      have hw1 : IntKind.i64.wrap (2000 + (T0 : Int)) = 2000 + (T0 : Int) := IntWalk.i64_in _ (by omega)
      have hr1 := Lib.hid hr1
      by_cases h50 : 50 ≤ T0
      · have c1 : (2050 : Int) ≤ 2000 + (T0 : Int) := by omega
        have hw2 : IntKind.i64.wrap (2000 + (T0 : Int) - 100) = ((1900 + T0 : Nat) : Int) := by rw [IntWalk.i64_in _ (by omega)]; omega
        have e50 := HS.out
        rw [if_pos h50] at e50
        have HE := Lib.hid e50
        clear e50
        go_wp2_with fail
        refine (rmoment_any (1900 + T0) (by omega) A1 (c - 2) (b.drop 2) _ (by simpa using hr1.out)).mono ?_
        rw [← HE.out, ho]
        rintro e w3 ⟨hb3, ⟨hno, rfl⟩ | ⟨⟨y, mo, d, hh, mi, s⟩, hyes, rfl⟩⟩
        · have H3 := Lib.hid (And.intro (H2.out.2.below hb3 H2.out.2.lt) (And.intro (H2.out.1.trans (hb3.mono H2.out.1.size)) hno))
          clear hb3 hno
          obtain ⟨r0, r1⟩ := H3.out.1.facts
          dsimp only [Tm.zero, Tm.v]
          go_wp2
          refine BAD.out _ _ H3.out.1 H3.out.2.1 (ho.trans H3.out.2.2) ?_ ?_
          · rfl
          · rfl
        · have H3 := Lib.hid (And.intro (H2.out.2.below hb3 H2.out.2.lt) (And.intro (H2.out.1.trans (hb3.mono H2.out.1.size)) hyes))
          clear hb3 hyes
          obtain ⟨r0, r1⟩ := H3.out.1.facts
          dsimp only [Tm.v]
          go_wp2
          have e4 := ((((((H3.out.1.set_ 0 (.int .u16 (y : Int))).set_ 1 (.int .u8 (mo : Int))).set_ 2 (.int .u8 (d : Int))).set_ 3 (.int .u8 (hh : Int))).set_ 4 (.int .u8 (mi : Int))).set_ 5 (.int .u8 (s : Int)))
          have hld := load_time _ _ _ _ _ _ _ _ e4
          refine bodyPost_ret (results_cell_tmp rfl _ _ _ _ _ rfl hld) rfl ?_
          refine ⟨?_, .inr ⟨⟨y, mo, d, hh, mi, s⟩, ho.trans H3.out.2.2, rfl⟩⟩
          exact ((((((H3.out.2.1.setCell (by dsimp only; omega) _).setCell (by dsimp only; omega) _).setCell (by dsimp only; omega) _).setCell (by dsimp only; omega) _).setCell (by dsimp only; omega) _).setCell (by dsimp only; omega) _)
      · have c1 : ¬ (2050 : Int) ≤ 2000 + (T0 : Int) := by omega
        have e50 := HS.out
        rw [if_neg h50] at e50
        have HE := Lib.hid e50
        clear e50
        go_wp2_with fail
        have hM := rmoment_any (2000 + T0) (by omega) A1 (c - 2) (b.drop 2) w2 (by simpa using hr1.out)
        push_cast at hM
        refine hM.mono ?_
        rw [← HE.out, ho]
        rintro e w3 ⟨hb3, ⟨hno, rfl⟩ | ⟨⟨y, mo, d, hh, mi, s⟩, hyes, rfl⟩⟩
        · have H3 := Lib.hid (And.intro (H2.out.2.below hb3 H2.out.2.lt) (And.intro (H2.out.1.trans (hb3.mono H2.out.1.size)) hno))
          clear hb3 hno
          obtain ⟨r0, r1⟩ := H3.out.1.facts
          dsimp only [Tm.zero, Tm.v]
          go_wp2
          refine BAD.out _ _ H3.out.1 H3.out.2.1 (ho.trans H3.out.2.2) ?_ ?_
          · rfl
          · rfl
        · have H3 := Lib.hid (And.intro (H2.out.2.below hb3 H2.out.2.lt) (And.intro (H2.out.1.trans (hb3.mono H2.out.1.size)) hyes))
          clear hb3 hyes
          obtain ⟨r0, r1⟩ := H3.out.1.facts
          dsimp only [Tm.v]
          go_wp2
          have e4 := ((((((H3.out.1.set_ 0 (.int .u16 (y : Int))).set_ 1 (.int .u8 (mo : Int))).set_ 2 (.int .u8 (d : Int))).set_ 3 (.int .u8 (hh : Int))).set_ 4 (.int .u8 (mi : Int))).set_ 5 (.int .u8 (s : Int)))
          have hld := load_time _ _ _ _ _ _ _ _ e4
          refine bodyPost_ret (results_cell_tmp rfl _ _ _ _ _ rfl hld) rfl ?_
          refine ⟨?_, .inr ⟨⟨y, mo, d, hh, mi, s⟩, ho.trans H3.out.2.2, rfl⟩⟩
          exact ((((((H3.out.2.1.setCell (by dsimp only; omega) _).setCell (by dsimp only; omega) _).setCell (by dsimp only; omega) _).setCell (by dsimp only; omega) _).setCell (by dsimp only; omega) _).setCell (by dsimp only; omega) _)
  · have hne : ((n : Int) != 13) = true := by simp; omega
    have hno : RC.utc b = none := by unfold RC.utc; rw [if_neg (fun h => h13 (by have := H.out.2.1; omega))]
    have HN := Lib.hid hno
    clear h13 hno
    go_wp2
    have hld := load_time _ _ _ _ _ _ _ _ H.out.2.2.1
    refine bodyPost_ret (results_cell_tmp rfl _ _ _ _ _ rfl hld) rfl ?_
    exact ⟨H.out.2.2.2, .inl ⟨HN.out, rfl⟩⟩
end Go.Proofs.Ytmnekhliblkibaa
