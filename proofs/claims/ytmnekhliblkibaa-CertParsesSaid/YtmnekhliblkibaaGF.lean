/- Joined of: Stamp Stamp2 Stamp3 Stamp4 Stamp5. -/
import Derived.Test.YtmnekhliblkibaaProg
import Derived.Test.YtmnekhliblkibaaGA
import Derived.BigQuiet
import Derived.BigRegion
import Derived.Deep.QuietTactic
import Derived.Deep.RegionHeld3
import Derived.StillTailTactics
section
/- The contracts of stamp.days, stamp.Right. -/
namespace Go.Proofs.Ytmnekhliblkibaa
open Go.RowKit
set_option maxRecDepth 100000
set_option linter.unusedVariables false
set_option linter.unusedSimpArgs false

/-- A moment. -/
structure Tm where
  y : Nat
  mo : Nat
  d : Nat
  h : Nat
  mi : Nat
  s : Nat
  deriving DecidableEq
def Tm.v (t : Tm) : Value := .agg #[.int .u16 (t.y : Int), .int .u8 (t.mo : Int), .int .u8 (t.d : Int), .int .u8 (t.h : Int), .int .u8 (t.mi : Int), .int .u8 (t.s : Int)]
/-- How many days a month has. -/
def Stamp.days (y m : Nat) : Nat := if m = 2 ∧ y % 4 = 0 ∧ (y % 100 ≠ 0 ∨ y % 400 = 0) then 29 else [0, 31, 28, 31, 30, 31, 30, 31, 31, 30, 31, 30, 31].getD m 0
/-- Whether there is such a moment. -/
def Stamp.right (t : Tm) : Bool := decide (1 ≤ t.d) && decide (t.d ≤ Stamp.days t.y t.mo) && decide (1900 ≤ t.y) && decide (t.y ≤ 9999) && decide (t.h < 24) && decide (t.mi < 60) && decide (t.s < 60)

theorem days_big (y m : Nat) (w : World) (hm : 13 ≤ m) (hb : m < 256) : Calls Try.prog 119 #[.int .u16 (y : Int), .int .u8 (m : Int)] w fun e w' => e = .returned (.int .u8 (Stamp.days y m : Int)) ∧ Below w.heap.size w w' := by
  have hd : Stamp.days y m = 0 := by
    unfold Stamp.days
    rw [if_neg (by omega), List.getD_eq_getElem?_getD, List.getElem?_eq_none (by simp; omega)]
    rfl
  rw [hd]
  have hm' : (13 : Int) ≤ m := by omega
  clear hd
  go_enter Try.func119, Try.ntmps119
  go_wp2
  go_ret
  exact ⟨rfl, by (repeat (first | exact Below.refl _ _ | assumption | (refine Below.setCell ?_ (by first | omega | (simp; done) | (simp; omega)) _) | (refine Below.alloc ?_ (by first | omega | (simp; done) | (simp; omega)) _) | (refine below_drewN ?_ _) | (refine Below.drew ?_)))⟩

theorem days_plain (y m z : Nat) (w : World) (hm : m < 13) (h2 : ((m : Int) == 2) = false) (hz : Hid ([0, 31, 28, 31, 30, 31, 30, 31, 31, 30, 31, 30, 31].getD m 0 = z)) (hc : (#[.int .u8 0, .int .u8 31, .int .u8 28, .int .u8 31, .int .u8 30, .int .u8 31, .int .u8 30, .int .u8 31, .int .u8 31, .int .u8 30, .int .u8 31, .int .u8 30, .int .u8 31] : Array Value)[m]? = some (.int .u8 (z : Int))) :
    Calls Try.prog 119 #[.int .u16 (y : Int), .int .u8 (m : Int)] w fun e w' => e = .returned (.int .u8 (Stamp.days y m : Int)) ∧ Below w.heap.size w w' := by
  have hd : Hid (Stamp.days y m = z) := Lib.hid (by
    unfold Stamp.days
    rw [if_neg (by simp at h2; omega), hz.out])
  rw [hd.out]
  have hm' : ¬ (13 : Int) ≤ m := by omega
  go_enter Try.func119, Try.ntmps119
  go_wp2
  go_ret
  refine ⟨?_, by (repeat (first | exact Below.refl _ _ | assumption | (refine Below.setCell ?_ (by first | omega | (simp; done) | (simp; omega)) _) | (refine Below.alloc ?_ (by first | omega | (simp; done) | (simp; omega)) _) | (refine below_drewN ?_ _) | (refine Below.drew ?_)))⟩
  congr 1
  rw [List.getElem?_toArray, List.getElem?_eq_getElem (by simpa using hm)] at hc
  exact Option.some.inj hc

theorem days_feb (y : Nat) (w : World) (hy : y < 65536) :
    Calls Try.prog 119 #[.int .u16 (y : Int), .int .u8 2] w fun e w' => e = .returned (.int .u8 (Stamp.days y 2 : Int)) ∧ Below w.heap.size w w' := by
  by_cases h4 : y % 4 = 0
  · have e4 : ((y : Int) % 4 == 0) = true := by simp; omega
    by_cases h100 : y % 100 = 0
    · have e100 : ((y : Int) % 100 != 0) = false := by simp; omega
      by_cases h400 : y % 400 = 0
      · have e400 : ((y : Int) % 400 == 0) = true := by simp; omega
        rw [show Stamp.days y 2 = 29 from if_pos ⟨rfl, h4, .inr h400⟩]
        clear h4 h100 h400
        go_enter Try.func119, Try.ntmps119
        go_wp2
        go_ret
        exact ⟨rfl, by (repeat (first | exact Below.refl _ _ | assumption | (refine Below.setCell ?_ (by first | omega | (simp; done) | (simp; omega)) _) | (refine Below.alloc ?_ (by first | omega | (simp; done) | (simp; omega)) _) | (refine below_drewN ?_ _) | (refine Below.drew ?_)))⟩
      · have e400 : ((y : Int) % 400 == 0) = false := by simp; omega
        rw [show Stamp.days y 2 = 28 from if_neg (fun h => h.2.2.elim (fun h => h h100) h400)]
        clear h4 h100 h400
        go_enter Try.func119, Try.ntmps119
        go_wp2
        go_ret
        exact ⟨rfl, by (repeat (first | exact Below.refl _ _ | assumption | (refine Below.setCell ?_ (by first | omega | (simp; done) | (simp; omega)) _) | (refine Below.alloc ?_ (by first | omega | (simp; done) | (simp; omega)) _) | (refine below_drewN ?_ _) | (refine Below.drew ?_)))⟩
    · have e100 : ((y : Int) % 100 != 0) = true := by simp; omega
      rw [show Stamp.days y 2 = 29 from if_pos ⟨rfl, h4, .inl h100⟩]
      clear h4 h100
      go_enter Try.func119, Try.ntmps119
      go_wp2
      go_ret
      exact ⟨rfl, by (repeat (first | exact Below.refl _ _ | assumption | (refine Below.setCell ?_ (by first | omega | (simp; done) | (simp; omega)) _) | (refine Below.alloc ?_ (by first | omega | (simp; done) | (simp; omega)) _) | (refine below_drewN ?_ _) | (refine Below.drew ?_)))⟩
  · have e4 : ((y : Int) % 4 == 0) = false := by simp; omega
    rw [show Stamp.days y 2 = 28 from if_neg (fun h => h4 h.2.1)]
    clear h4
    go_enter Try.func119, Try.ntmps119
    go_wp2
    go_ret
    exact ⟨rfl, by (repeat (first | exact Below.refl _ _ | assumption | (refine Below.setCell ?_ (by first | omega | (simp; done) | (simp; omega)) _) | (refine Below.alloc ?_ (by first | omega | (simp; done) | (simp; omega)) _) | (refine below_drewN ?_ _) | (refine Below.drew ?_)))⟩

theorem days_any (y m : Nat) (w : World) (hy : y < 65536) (hm : m < 256) :
    Calls Try.prog 119 #[.int .u16 (y : Int), .int .u8 (m : Int)] w fun e w' => e = .returned (.int .u8 (Stamp.days y m : Int)) ∧ Below w.heap.size w w' := by
  by_cases h13 : 13 ≤ m
  · exact days_big y m w h13 hm
  · by_cases h2 : m = 2
    · subst h2
      exact days_feb y w hy
    · refine days_plain y m _ w (by omega) (by simp; omega) (Lib.hid rfl) ?_
      have : m < 13 := by omega
      rcases m with _ | _ | _ | _ | _ | _ | _ | _ | _ | _ | _ | _ | _ | m <;> first | rfl | omega

end Go.Proofs.Ytmnekhliblkibaa
end

section
/- The contract of stamp.Right. -/
namespace Go.Proofs.Ytmnekhliblkibaa
open Go.RowKit
set_option maxRecDepth 100000
set_option linter.unusedVariables false
set_option linter.unusedSimpArgs false

theorem right_nul (y mo h mi s : Nat) (w : World) :
    Calls Try.prog 115 #[Tm.v ⟨y, mo, 0, h, mi, s⟩] w fun e w' => e = .returned (.bool false) ∧ Below w.heap.size w w' := by
  dsimp only [Tm.v]
  have h0 : decide ((0 : Int) < (0 : Nat)) = false := rfl
  go_enter Try.func115, Try.ntmps115
  go_wp2
  go_quiet (fail)
  by_cases h1 : (1900 : Int) ≤ y
  · by_cases h2 : (y : Int) ≤ 9999
    · go_wp2
      go_ret
      exact ⟨rfl, by (repeat (first | exact Below.refl _ _ | assumption | (refine Below.setCell ?_ (by first | omega | (simp; done) | (simp; omega)) _) | (refine Below.alloc ?_ (by first | omega | (simp; done) | (simp; omega)) _) | (refine below_drewN ?_ _) | (refine Below.drew ?_)))⟩
    · go_wp2
      go_ret
      exact ⟨rfl, by (repeat (first | exact Below.refl _ _ | assumption | (refine Below.setCell ?_ (by first | omega | (simp; done) | (simp; omega)) _) | (refine Below.alloc ?_ (by first | omega | (simp; done) | (simp; omega)) _) | (refine below_drewN ?_ _) | (refine Below.drew ?_)))⟩
  · go_wp2
    go_ret
    exact ⟨rfl, by (repeat (first | exact Below.refl _ _ | assumption | (refine Below.setCell ?_ (by first | omega | (simp; done) | (simp; omega)) _) | (refine Below.alloc ?_ (by first | omega | (simp; done) | (simp; omega)) _) | (refine below_drewN ?_ _) | (refine Below.drew ?_)))⟩

theorem right_any (t : Tm) (w : World) (hy : t.y < 65536) (hm : t.mo < 256) :
    Calls Try.prog 115 #[t.v] w fun e w' => e = .returned (.bool (Stamp.right t)) ∧ Below w.heap.size w w' := by
  obtain ⟨y, mo, d, h, mi, s⟩ := t
  by_cases hd : d = 0
  · subst hd
    exact right_nul y mo h mi s w
  dsimp only [Tm.v] at hy hm ⊢
  have hd' : 0 < d := by omega
  have hq : Hid (∀ q, (decide (d ≤ Stamp.days y mo) && decide (1900 ≤ y) && decide (y ≤ 9999) && decide (h < 24) && decide (mi < 60) && decide (s < 60)) = q → Stamp.right ⟨y, mo, d, h, mi, s⟩ = q) := Lib.hid (by
    rintro q rfl
    unfold Stamp.right
    dsimp only
    rw [show decide (1 ≤ d) = true from decide_eq_true (by omega), Bool.true_and])
  obtain ⟨D, hD⟩ : ∃ D, Stamp.days y mo = D := ⟨_, rfl⟩
  rw [hD] at hq
  have HD := Lib.hid hD
  clear hD hd
  have hsz : w.heap.size < w.heap.size + 1 := by omega
  go_enter Try.func115, Try.ntmps115
  go_wp2
  go_region_held3 (fun w' => w'.cell? ⟨w.heap.size, 0, none⟩ = some (.int .u16 (y : Int)) ∧ w'.cell? ⟨w.heap.size, 1, none⟩ = some (.int .u8 (mo : Int)) ∧ w'.cell? ⟨w.heap.size, 2, none⟩ = some (.int .u8 (d : Int))) (go_keep)
    (first | (go_at_call 119; ((with_reducible refine (days_any y mo _ hy hm).mono ?_); rintro e w1 ⟨rfl, hb1⟩); rw [HD.out]; simp only [World.size_drew, World.size_alloc] at hb1; have k0 : w1.cell? ⟨w.heap.size, 0, none⟩ = some (.int .u16 (y : Int)) := (hb1.cell (p := ⟨w.heap.size, 0, none⟩) hsz).trans (by simp [go_sem]); have k1 : w1.cell? ⟨w.heap.size, 1, none⟩ = some (.int .u8 (mo : Int)) := (hb1.cell (p := ⟨w.heap.size, 1, none⟩) hsz).trans (by simp [go_sem]); have k2 : w1.cell? ⟨w.heap.size, 2, none⟩ = some (.int .u8 (d : Int)) := (hb1.cell (p := ⟨w.heap.size, 2, none⟩) hsz).trans (by simp [go_sem])))
  have hbw : Below w.heap.size w w1 := Below.trans (by (repeat (first | exact Below.refl _ _ | assumption | (refine Below.setCell ?_ (by first | omega | (simp; done) | (simp; omega)) _) | (refine Below.alloc ?_ (by first | omega | (simp; done) | (simp; omega)) _) | (refine below_drewN ?_ _) | (refine Below.drew ?_)))) (hb1.mono (by omega))
  have k3 : w1.cell? ⟨w.heap.size, 3, none⟩ = some (.int .u8 (h : Int)) := (hb1.cell (p := ⟨w.heap.size, 3, none⟩) hsz).trans (by simp [go_sem])
  have k4 : w1.cell? ⟨w.heap.size, 4, none⟩ = some (.int .u8 (mi : Int)) := (hb1.cell (p := ⟨w.heap.size, 4, none⟩) hsz).trans (by simp [go_sem])
  have k5 : w1.cell? ⟨w.heap.size, 5, none⟩ = some (.int .u8 (s : Int)) := (hb1.cell (p := ⟨w.heap.size, 5, none⟩) hsz).trans (by simp [go_sem])
  have HB := Lib.hid hbw
  clear hbw hb1
  by_cases c1 : (1900 : Int) ≤ y
  · by_cases c2 : (y : Int) ≤ 9999
    · by_cases c3 : (d : Int) ≤ D
      · by_cases c4 : (h : Int) < 24
        · by_cases c5 : (mi : Int) < 60
          · by_cases c6 : (s : Int) < 60
            · go_wp2
              go_ret
              exact ⟨by rw [hq.out true (by simp; omega)]; rfl, HB.out⟩
            · go_wp2
              go_ret
              exact ⟨by rw [hq.out false (by simp; omega)]; rfl, HB.out⟩
          · go_wp2
            go_ret
            exact ⟨by rw [hq.out false (by simp; omega)]; rfl, HB.out⟩
        · go_wp2
          go_ret
          exact ⟨by rw [hq.out false (by simp; omega)]; rfl, HB.out⟩
      · go_wp2
        go_ret
        exact ⟨by rw [hq.out false (by simp; omega)]; rfl, HB.out⟩
    · go_wp2
      go_ret
      exact ⟨by rw [hq.out false (by simp; omega)]; rfl, HB.out⟩
  · go_wp2
    go_ret
    exact ⟨by rw [hq.out false (by simp; omega)]; rfl, HB.out⟩
end Go.Proofs.Ytmnekhliblkibaa
end

section
/- The contracts of the closures of stamp.told, of slices.IndexFunc and ContainsFunc at them. -/
namespace Go.Proofs.Ytmnekhliblkibaa
open Go.RowKit
set_option maxRecDepth 100000
set_option linter.unusedVariables false
set_option linter.unusedSimpArgs false

def notDig (c : UInt8) : Bool := decide (c.toNat < 48) || decide (57 < c.toNat)

theorem told1_any (c : UInt8) (w : World) : Calls Try.prog 113 #[.int .u8 (c.toNat : Int)] w fun e w' => e = .returned (.bool (notDig c)) ∧ w' = w := by
  by_cases h1 : (c.toNat : Int) < 48
  · have hq : notDig c = true := by unfold notDig; simp; omega
    rw [hq]
    go_enter Try.func113, Try.ntmps113
    go_wp2
    go_ret
    exact ⟨rfl, rfl⟩
  · have hq : notDig c = decide ((57 : Int) < c.toNat) := by
      unfold notDig
      rw [show decide (c.toNat < 48) = false from by simp; omega, Bool.false_or]
      exact decide_eq_decide.2 (by omega)
    rw [hq]
    clear hq
    go_enter Try.func113, Try.ntmps113
    go_wp2
    go_ret
    exact ⟨rfl, rfl⟩

theorem utc1_any (y : Nat) (hy : y < 100) (w : World) : Calls Try.prog 104 #[.int .i64 (y : Int)] w fun e w' => e = .returned (.int .i64 ((if 50 ≤ y then 1900 + y else 2000 + y : Nat) : Int)) ∧ w' = w := by
  by_cases h1 : 50 ≤ y
  · have h1' : (50 : Int) ≤ y := by omega
    rw [if_pos h1]
    go_enter Try.func104, Try.ntmps104
    go_wp2
    go_ret
    exact ⟨by congr 2, rfl⟩
  · have h1' : ¬ (50 : Int) ≤ y := by omega
    rw [if_neg h1]
    go_enter Try.func104, Try.ntmps104
    go_wp2
    go_ret
    exact ⟨by congr 2, rfl⟩
theorem gen1_any (y : Nat) (w : World) : Calls Try.prog 103 #[.int .i64 (y : Int)] w fun e w' => e = .returned (.int .i64 (y : Int)) ∧ w' = w := by
  go_enter Try.func103, Try.ntmps103
  go_wp2
  go_ret
  exact ⟨rfl, rfl⟩

theorem indexFunc_any (A : Option Addr) (n c : Nat) (xs : List UInt8) (B : Nat) (w : World) (h : Rd w B A n c xs) :
    Calls Try.prog 118 #[.slice A n c, .func (.func 113) #[] #[]] w fun e w' => w' = w ∧ ∃ z : Int, e = .returned (.int .i64 z) ∧ (decide (0 ≤ z) = xs.any notDig) := by
  have hl := h.len
  have hcp := h.cap
  have hcm := h.capm
  have HX := Lib.hid (And.intro h hl)
  clear h hl
  go_enter Try.func118, Try.ntmps118
  go_wp2
  go_loopw [8] (fun i wr => ∃ k : Nat, k ≤ n ∧ i = .int .i64 k ∧ wr = w ∧ (xs.take k).any notDig = false) (fun i _ => n - (intOf i).toNat)
  case atStart => exact ⟨0, Nat.zero_le _, rfl, rfl, rfl⟩
  case round =>
    obtain ⟨k, hk, rfl, rfl, hz⟩ := hrel
    by_cases hlt : k < n
    · have hlt' : (k : Int) < n := by omega
      obtain ⟨g, o, rfl, hg, hcell⟩ := HX.out.1.at_ (by omega)
      obtain ⟨x, hx⟩ : ∃ x, xs[k]? = some x := ⟨_, List.getElem?_eq_getElem (by have := HX.out.2; omega)⟩
      have hcx := hcell k x hx
      have HZ := Lib.hid (And.intro hz hx)
      clear hz hx hcell
      go_wp2_with fail
      refine (told1_any x _).mono ?_
      rintro e w' ⟨rfl, rfl⟩
      cases hq : notDig x with
      | true =>
        have HQ := Lib.hid hq
        clear hq
        go_wp2
        go_ret
        refine ⟨rfl, k, rfl, ?_⟩
        rw [decide_eq_true (by omega)]
        symm
        rw [List.any_eq_true]
        exact ⟨x, List.mem_of_getElem? HZ.out.2, HQ.out⟩
      | false =>
        have HQ := Lib.hid hq
        clear hq
        go_wp2
        go_roundw
        case rel => exact ⟨k + 1, by omega, by go_num, trivial, by rw [take_snoc HZ.out.2, List.any_append, HZ.out.1]; simp [HQ.out]⟩
        case measure => simp [intOf]; omega
    · obtain rfl : n = k := by omega
      have hge : ¬ (n : Int) < n := by omega
      have HZ := Lib.hid hz
      clear hz
      go_wp2
      go_ret
      refine ⟨rfl, -1, rfl, ?_⟩
      have e := HZ.out
      rw [List.take_of_length_le (by have := HX.out.2; omega)] at e
      rw [e]
      rfl

theorem containsFunc_any (A : Option Addr) (n c : Nat) (xs : List UInt8) (B : Nat) (w : World) (h : Rd w B A n c xs) :
    Calls Try.prog 112 #[.slice A n c, .func (.func 113) #[] #[]] w fun e w' => w' = w ∧ e = .returned (.bool (xs.any notDig)) := by
  go_enter Try.func112, Try.ntmps112
  go_wp2_with fail
  refine (indexFunc_any A n c xs B _ h).mono ?_
  rintro e w' ⟨rfl, z, rfl, hz⟩
  have HZ := Lib.hid hz
  clear hz
  go_wp2
  go_ret
  exact ⟨rfl, by rw [← HZ.out]; rfl⟩
end Go.Proofs.Ytmnekhliblkibaa
end

section
/- The contract of the closure of stamp.told that reads digits. -/
namespace Go.Proofs.Ytmnekhliblkibaa
open Go.RowKit
set_option maxRecDepth 100000
set_option linter.unusedVariables false
set_option linter.unusedSimpArgs false

/-- The number of digits. -/
def Stamp.dig (l : List UInt8) : Nat := l.foldl (fun a x => a * 10 + (x.toNat - 48)) 0
theorem dig_snoc (l : List UInt8) (x : UInt8) : Stamp.dig (l ++ [x]) = Stamp.dig l * 10 + (x.toNat - 48) := by simp [Stamp.dig, List.foldl_append]

theorem dig_lt (l : List UInt8) (h : l.any notDig = false) : Stamp.dig l < 10 ^ l.length := by
  have key : ∀ (r l : List UInt8), l.any notDig = false → r.length = 0 ∨ True → ∀ a, l.foldl (fun a x => a * 10 + (x.toNat - 48)) a < (a + 1) * 10 ^ l.length := by
    intro _ l
    induction l with
    | nil => intro _ _ a; simp
    | cons x l ih =>
      intro h _ a
      simp only [List.any_cons, Bool.or_eq_false_iff] at h
      have h1 := ih h.2 (.inr trivial) (a * 10 + (x.toNat - 48))
      have hx : x.toNat ≤ 57 := by
        have := h.1
        unfold notDig at this
        simp at this
        omega
      simp only [List.foldl_cons, List.length_cons, Nat.pow_succ]
      refine Nat.lt_of_lt_of_le h1 ?_
      rw [Nat.mul_comm (10 ^ l.length) 10, ← Nat.mul_assoc]
      exact Nat.mul_le_mul_right _ (by omega)
  have := key [] l h (.inr trivial) 0
  simpa [Stamp.dig] using this

theorem next_any (A : Option Addr) (m c : Nat) (xs : List UInt8) (B p q n at_ : Nat) (w : World) (h : Rd w B A m c xs) (hB : B ≤ q) (hp : w.cell? ⟨p, 0, none⟩ = some (.slice A m c)) (hpq : p < q)
    (hq : Blk w q 3 #[.int .i64 (at_ : Int)]) (hn : n ≤ 4) (hat : at_ + n ≤ m) (hm : m ≤ 100) (hd : ((xs.drop at_).take n).any notDig = false) :
    Calls Try.prog 114 #[.int .i64 (n : Int), .pointer (some ⟨p, 0, none⟩), .pointer (some ⟨q, 0, none⟩)] w fun e w' =>
      e = .returned (.int .i64 (Stamp.dig ((xs.drop at_).take n) : Int)) ∧ w.grownBy w' (some q) ∧ w'.heap.size = w.heap.size ∧ Blk w' q 3 #[.int .i64 ((at_ + n : Nat) : Int)] := by
  have hl := h.len
  have hlt := hq.lt
  have HX := Lib.hid (And.intro h (And.intro hl (And.intro hd hq)))
  clear h hl hd hq
  go_enter Try.func114, Try.ntmps114
  go_wp2
  go_loopw [0, 4] (fun v u wr => ∃ k : Nat, k ≤ n ∧ v = .int .i64 ((n - k : Nat) : Int) ∧ u = .int .i64 (Stamp.dig ((xs.drop at_).take k) : Int) ∧ w.grownBy wr (some q) ∧ wr.heap.size = w.heap.size ∧ Blk wr q 3 #[.int .i64 ((at_ + k : Nat) : Int)]) (fun v _ _ => (intOf v).toNat)
  case atStart => exact ⟨0, Nat.zero_le _, rfl, rfl, World.grownBy.refl w _, rfl, HX.out.2.2.2⟩
  case round =>
    obtain ⟨k, hk, rfl, rfl, hg, hs, hb⟩ := hrel
    by_cases hlt' : k < n
    · have hpos : (0 : Int) < ((n - k : Nat) : Int) := by omega
      obtain ⟨g, o, rfl, hgB, hcell⟩ := HX.out.1.at_ (by omega)
      obtain ⟨x, hx⟩ : ∃ x, xs[at_ + k]? = some x := ⟨_, List.getElem?_eq_getElem (by have := HX.out.2.1; omega)⟩
      have hcx : wr.cell? ⟨g, o + (at_ + k), none⟩ = some (.int .u8 (x.toNat : Int)) := (World.cell?_of_block (hg.block g (by omega) (fun e => by injection e with e; omega))).trans (hcell (at_ + k) x hx)
      have hcp : wr.cell? ⟨p, 0, none⟩ = some (.slice (some ⟨g, o, none⟩) m c) := (World.cell?_of_block (hg.block p (by omega) (fun e => by injection e with e; omega))).trans hp
      obtain ⟨hc0, hf0⟩ := hb.facts
      have htk : ((xs.drop at_).take n)[k]? = some x := get_take_drop hlt' hx
      have htk' : (xs.drop at_).take (k + 1) = (xs.drop at_).take k ++ [x] := take_snoc (by rw [List.getElem?_drop]; exact hx)
      have hnd : notDig x = false := by
        have := HX.out.2.2.1
        rw [List.any_eq_false] at this
        simpa using this x (List.mem_of_getElem? htk)
      have hx48 : (48 : Int) ≤ x.toNat ∧ (x.toNat : Int) ≤ 57 := by
        unfold notDig at hnd
        simp at hnd
        omega
      have hpre : ((xs.drop at_).take k).any notDig = false := by
        have h1 := HX.out.2.2.1
        rw [List.any_eq_false] at h1 ⊢
        intro y hy
        refine h1 y ?_
        rw [show k = min k n from by omega, ← List.take_take] at hy
        exact List.mem_of_mem_take hy
      have hdl := dig_lt _ hpre
      have hdl2 : Stamp.dig ((xs.drop at_).take k) < 10000 := Nat.lt_of_lt_of_le hdl (Nat.le_trans (Nat.pow_le_pow_right (by omega) (show _ ≤ 4 by simp; omega)) (by omega))
      obtain ⟨V, hV⟩ : ∃ V, Stamp.dig ((xs.drop at_).take k) = V := ⟨_, rfl⟩
      rw [hV] at hdl2 ⊢
      have hx1 := hx48.1
      have hx2 := hx48.2
      have HK := Lib.hid (And.intro hg (And.intro hs (And.intro hb (And.intro htk' hV))))
      have hi0 : (0 : Int) ≤ ((at_ + k : Nat) : Int) := by omega
      have hi1 : ((at_ + k : Nat) : Int) < m := by omega
      clear hg hs hb htk htk' hV hnd hx48 hpre hdl hcell hx
      go_wp2
      refine ⟨⟨k + 1, by omega, by congr 1; omega, ?_, grownBy_store HK.out.1 0 _, by simpa using HK.out.2.1, ?_⟩, by simp [intOf]; omega⟩
      · rw [HK.out.2.2.2.1, dig_snoc, HK.out.2.2.2.2]
        congr 1
        omega
      · have := HK.out.2.2.1.set_ 0 (.int .i64 ((at_ : Int) + (k : Int) + 1))
        simpa [Int.add_assoc] using this
    · obtain rfl : n = k := by omega
      have hge : ¬ (0 : Int) < ((n - n : Nat) : Int) := by omega
      have HK := Lib.hid (And.intro hg (And.intro hs hb))
      clear hg hs hb
      go_wp2
      go_ret
      exact ⟨rfl, HK.out⟩
end Go.Proofs.Ytmnekhliblkibaa
end

section
/- The contracts of stamp.told at its two closures. (Printed by gentold.py.) -/
namespace Go.Proofs.Ytmnekhliblkibaa
open Go.RowKit
set_option maxRecDepth 100000
set_option linter.unusedVariables false
set_option linter.unusedSimpArgs false

/-- The moment that digits tell, n of them the year's, which is turned. -/
def Stamp.at2 (b : List UInt8) (k : Nat) : Nat := Stamp.dig ((b.drop k).take 2)
def Stamp.tm (n : Nat) (f : Nat → Nat) (b : List UInt8) : Tm := ⟨f (Stamp.dig ((b.drop 0).take n)), Stamp.at2 b n, Stamp.at2 b (n + 2), Stamp.at2 b (n + 4), Stamp.at2 b (n + 6), Stamp.at2 b (n + 8)⟩
def Stamp.told (n : Nat) (f : Nat → Nat) (b : List UInt8) : Option Tm :=
  if b.length = n + 11 ∧ b[n + 10]? = some 90 ∧ (b.take (n + 10)).any notDig = false ∧ Stamp.right (Stamp.tm n f b) = true then some (Stamp.tm n f b) else none
def Tm.zero : Tm := ⟨0, 0, 0, 0, 0, 0⟩
/-- What a reader of moments answers. -/
def ToldPost (o : Option Tm) (w : World) (e : Ending) (w' : World) : Prop := Below w.heap.size w w' ∧ ((o = none ∧ e = .returned (.tuple #[Tm.zero.v, .bool false])) ∨ ∃ t, o = some t ∧ e = .returned (.tuple #[t.v, .bool true]))

def Stamp.year2 (y : Nat) : Nat := if 50 ≤ y then 1900 + y else 2000 + y
/-- The cells of a moment of which k numbers behind the year are read. -/
def Stamp.cell (n : Nat) (b : List UInt8) (k j : Nat) : Value := if j < k then .int .u8 (Stamp.at2 b (n + 2 * j) : Int) else .int .u8 0
def Stamp.cells (Y n : Nat) (b : List UInt8) (k : Nat) : Array Value := #[.int .u16 (Y : Int), Stamp.cell n b k 0, Stamp.cell n b k 1, Stamp.cell n b k 2, Stamp.cell n b k 3, Stamp.cell n b k 4]
theorem results_cell {fn : Func} {t : Tmp} {ty : TypeId} (h : fn.results = #[.cell t ty]) (tmps : Array Value) (P : Program) (w : World) (ad : Addr) (v : Value) (ha : tmps.getD t undef = .pointer (some ad)) (hl : (loadVar ty ad).run P w = .ok v w) :
    (results fn tmps).run P w = .ok v w := by
  have ha' := ha
  simp only [Array.getD_eq_getD_getElem?] at ha'
  simp [results, h, ha', hl, asAddr]
theorem results_cell_tmp {fn : Func} {t u : Tmp} {ty : TypeId} (h : fn.results = #[.cell t ty, .tmp u]) (tmps : Array Value) (P : Program) (w : World) (ad : Addr) (v : Value) (ha : tmps.getD t undef = .pointer (some ad)) (hl : (loadVar ty ad).run P w = .ok v w) :
    (results fn tmps).run P w = .ok (.tuple #[v, tmps.getD u undef]) w := by
  have ha' := ha
  simp only [Array.getD_eq_getD_getElem?] at ha'
  simp [results, h, ha', hl, asAddr]
theorem load_time (w : World) (b : Nat) (v0 v1 v2 v3 v4 v5 : Value) (h : Blk w b 27 #[v0, v1, v2, v3, v4, v5]) : (loadVar 27 ⟨b, 0, none⟩).run Try.prog w = .ok (.agg #[v0, v1, v2, v3, v4, v5]) w := by
  obtain ⟨k, _⟩ := h.facts
  have k0 := k 0
  have k1 := k 1
  have k2 := k 2
  have k3 := k 3
  have k4 := k 4
  have k5 := k 5
  simp only [List.getElem?_toArray, List.getElem?_cons_zero, List.getElem?_cons_succ] at k0 k1 k2 k3 k4 k5
  clear k h
  simp [go_sem, k0, k1, k2, k3, k4, k5]
/-- What the rounds keep. -/
structure ToldI (n Y : Nat) (sl : Value) (b : List UInt8) (w : World) (k : Nat) (wr : World) : Prop where
  bel : Below w.heap.size w wr
  size : wr.heap.size = w.heap.size + 5
  b0 : Blk wr w.heap.size 22 #[sl]
  b1 : Blk wr (w.heap.size + 1) 27 #[.int .u16 0, .int .u8 0, .int .u8 0, .int .u8 0, .int .u8 0, .int .u8 0]
  b2 : Blk wr (w.heap.size + 1 + 1) 3 #[.int .i64 ((n + 2 * k : Nat) : Int)]
  b3 : Blk wr (w.heap.size + 1 + 1 + 1) 27 (Stamp.cells Y n b k)
  b4 : Blk wr (w.heap.size + 1 + 1 + 1 + 1) 151 #[.pointer (some ⟨w.heap.size + 1 + 1 + 1, 1, none⟩), .pointer (some ⟨w.heap.size + 1 + 1 + 1, 2, none⟩), .pointer (some ⟨w.heap.size + 1 + 1 + 1, 3, none⟩), .pointer (some ⟨w.heap.size + 1 + 1 + 1, 4, none⟩), .pointer (some ⟨w.heap.size + 1 + 1 + 1, 5, none⟩)]
theorem at2_lt {b : List UInt8} {k : Nat} (h : ((b.drop k).take 2).any notDig = false) : Stamp.at2 b k < 100 := by
  have h1 := dig_lt _ h
  have h2 : (10 : Nat) ^ ((b.drop k).take 2).length ≤ 10 ^ 2 := Nat.pow_le_pow_right (by omega) (by simp; omega)
  unfold Stamp.at2
  omega


theorem told4_len (A : Option Addr) (m c : Nat) (xs : List UInt8) (w : World) (h : Rd w w.heap.size A m c xs) (hl : m ≠ 15) :
    Calls Try.prog 102 #[.slice A m c, .int .i64 4, .func (.func 103) #[] #[]] w (ToldPost (Stamp.told 4 id xs) w) := by
  have hn : Stamp.told 4 id xs = none := if_neg (fun h' => hl (h.len.symm.trans h'.1))
  rw [hn]
  have hne : ((m : Int) != 15) = true := by simp; omega
  clear hn h
  go_enter Try.func102, Try.ntmps102
  go_wp2
  refine bodyPost_ret (v := .tuple #[Tm.zero.v, .bool false]) (by simp [results, Try.results102, go_sem, Tm.v, Tm.zero]) rfl ?_
  exact ⟨by (repeat (first | exact Below.refl _ _ | assumption | (refine Below.setCell ?_ (by first | omega | (simp; done) | (simp; omega)) _) | (refine Below.alloc ?_ (by first | omega | (simp; done) | (simp; omega)) _) | (refine below_drewN ?_ _) | (refine Below.drew ?_))), .inl ⟨rfl, rfl⟩⟩

theorem told4_last (b o c : Nat) (x : UInt8) (xs : List UInt8) (w : World) (h : Rd w w.heap.size (some ⟨b, o, none⟩) 15 c xs) (hx : xs[14]? = some x) (hl : x ≠ 90) :
    Calls Try.prog 102 #[.slice (some ⟨b, o, none⟩) 15 c, .int .i64 4, .func (.func 103) #[] #[]] w (ToldPost (Stamp.told 4 id xs) w) := by
  have hn : Stamp.told 4 id xs = none := if_neg (fun h' => hl (by have := hx.symm.trans h'.2.1; injection this))
  rw [hn]
  obtain ⟨b', o', e, hb, hcell⟩ := h.at_ (by omega)
  injection e with e
  injection e with e1 e2
  subst e1 e2
  have hc := hcell 14 x hx
  have hne : ((x.toNat : Int) != 90) = true := by
    simp only [bne_iff_ne, ne_eq]
    intro e
    exact hl (UInt8.toNat.inj (by rw [show (90 : UInt8).toNat = 90 from rfl]; omega))
  have hB := hb
  clear hn h hcell hx hl
  go_enter Try.func102, Try.ntmps102
  go_wp2
  refine bodyPost_ret (v := .tuple #[Tm.zero.v, .bool false]) (by simp [results, Try.results102, go_sem, Tm.v, Tm.zero]) rfl ?_
  exact ⟨by (repeat (first | exact Below.refl _ _ | assumption | (refine Below.setCell ?_ (by first | omega | (simp; done) | (simp; omega)) _) | (refine Below.alloc ?_ (by first | omega | (simp; done) | (simp; omega)) _) | (refine below_drewN ?_ _) | (refine Below.drew ?_))), .inl ⟨rfl, rfl⟩⟩

theorem told4_dig (b o c : Nat) (xs : List UInt8) (w : World) (h : Rd w w.heap.size (some ⟨b, o, none⟩) 15 c xs) (hx : xs[14]? = some 90) (hd : (xs.take 14).any notDig = true) :
    Calls Try.prog 102 #[.slice (some ⟨b, o, none⟩) 15 c, .int .i64 4, .func (.func 103) #[] #[]] w (ToldPost (Stamp.told 4 id xs) w) := by
  have hn : Stamp.told 4 id xs = none := if_neg (fun h' => by have := h'.2.2.1; rw [hd] at this; cases this)
  rw [hn]
  obtain ⟨b', o', e, hb, hcell⟩ := h.at_ (by omega)
  injection e with e
  injection e with e1 e2
  subst e1 e2
  have hc : w.cell? ⟨b, o + 14, none⟩ = some (.int .u8 90) := hcell 14 90 hx
  have hcp := h.cap
  have hcm := h.capm
  have HX := Lib.hid (And.intro (h.upto 14 (by omega)) hd)
  have hB := hb
  clear hn h hcell hx hd
  go_enter Try.func102, Try.ntmps102
  go_wp2_with fail
  refine (containsFunc_any (some ⟨b, o, none⟩) 14 c (xs.take 14) w.heap.size _ ((HX.out.1.alloc (Nat.le_refl _) _).alloc (by simp) _)).mono ?_
  rintro e w' ⟨rfl, rfl⟩
  rw [HX.out.2]
  go_wp2
  refine bodyPost_ret (v := .tuple #[Tm.zero.v, .bool false]) (by simp [results, Try.results102, go_sem, Tm.v, Tm.zero]) rfl ?_
  exact ⟨by (repeat (first | exact Below.refl _ _ | assumption | (refine Below.setCell ?_ (by first | omega | (simp; done) | (simp; omega)) _) | (refine Below.alloc ?_ (by first | omega | (simp; done) | (simp; omega)) _) | (refine below_drewN ?_ _) | (refine Below.drew ?_))), .inl ⟨rfl, rfl⟩⟩

theorem told2_len (A : Option Addr) (m c : Nat) (xs : List UInt8) (w : World) (h : Rd w w.heap.size A m c xs) (hl : m ≠ 13) :
    Calls Try.prog 102 #[.slice A m c, .int .i64 2, .func (.func 104) #[] #[]] w (ToldPost (Stamp.told 2 Stamp.year2 xs) w) := by
  have hn : Stamp.told 2 Stamp.year2 xs = none := if_neg (fun h' => hl (h.len.symm.trans h'.1))
  rw [hn]
  have hne : ((m : Int) != 13) = true := by simp; omega
  clear hn h
  go_enter Try.func102, Try.ntmps102
  go_wp2
  refine bodyPost_ret (v := .tuple #[Tm.zero.v, .bool false]) (by simp [results, Try.results102, go_sem, Tm.v, Tm.zero]) rfl ?_
  exact ⟨by (repeat (first | exact Below.refl _ _ | assumption | (refine Below.setCell ?_ (by first | omega | (simp; done) | (simp; omega)) _) | (refine Below.alloc ?_ (by first | omega | (simp; done) | (simp; omega)) _) | (refine below_drewN ?_ _) | (refine Below.drew ?_))), .inl ⟨rfl, rfl⟩⟩

theorem told2_last (b o c : Nat) (x : UInt8) (xs : List UInt8) (w : World) (h : Rd w w.heap.size (some ⟨b, o, none⟩) 13 c xs) (hx : xs[12]? = some x) (hl : x ≠ 90) :
    Calls Try.prog 102 #[.slice (some ⟨b, o, none⟩) 13 c, .int .i64 2, .func (.func 104) #[] #[]] w (ToldPost (Stamp.told 2 Stamp.year2 xs) w) := by
  have hn : Stamp.told 2 Stamp.year2 xs = none := if_neg (fun h' => hl (by have := hx.symm.trans h'.2.1; injection this))
  rw [hn]
  obtain ⟨b', o', e, hb, hcell⟩ := h.at_ (by omega)
  injection e with e
  injection e with e1 e2
  subst e1 e2
  have hc := hcell 12 x hx
  have hne : ((x.toNat : Int) != 90) = true := by
    simp only [bne_iff_ne, ne_eq]
    intro e
    exact hl (UInt8.toNat.inj (by rw [show (90 : UInt8).toNat = 90 from rfl]; omega))
  have hB := hb
  clear hn h hcell hx hl
  go_enter Try.func102, Try.ntmps102
  go_wp2
  refine bodyPost_ret (v := .tuple #[Tm.zero.v, .bool false]) (by simp [results, Try.results102, go_sem, Tm.v, Tm.zero]) rfl ?_
  exact ⟨by (repeat (first | exact Below.refl _ _ | assumption | (refine Below.setCell ?_ (by first | omega | (simp; done) | (simp; omega)) _) | (refine Below.alloc ?_ (by first | omega | (simp; done) | (simp; omega)) _) | (refine below_drewN ?_ _) | (refine Below.drew ?_))), .inl ⟨rfl, rfl⟩⟩

theorem told2_dig (b o c : Nat) (xs : List UInt8) (w : World) (h : Rd w w.heap.size (some ⟨b, o, none⟩) 13 c xs) (hx : xs[12]? = some 90) (hd : (xs.take 12).any notDig = true) :
    Calls Try.prog 102 #[.slice (some ⟨b, o, none⟩) 13 c, .int .i64 2, .func (.func 104) #[] #[]] w (ToldPost (Stamp.told 2 Stamp.year2 xs) w) := by
  have hn : Stamp.told 2 Stamp.year2 xs = none := if_neg (fun h' => by have := h'.2.2.1; rw [hd] at this; cases this)
  rw [hn]
  obtain ⟨b', o', e, hb, hcell⟩ := h.at_ (by omega)
  injection e with e
  injection e with e1 e2
  subst e1 e2
  have hc : w.cell? ⟨b, o + 12, none⟩ = some (.int .u8 90) := hcell 12 90 hx
  have hcp := h.cap
  have hcm := h.capm
  have HX := Lib.hid (And.intro (h.upto 12 (by omega)) hd)
  have hB := hb
  clear hn h hcell hx hd
  go_enter Try.func102, Try.ntmps102
  go_wp2_with fail
  refine (containsFunc_any (some ⟨b, o, none⟩) 12 c (xs.take 12) w.heap.size _ ((HX.out.1.alloc (Nat.le_refl _) _).alloc (by simp) _)).mono ?_
  rintro e w' ⟨rfl, rfl⟩
  rw [HX.out.2]
  go_wp2
  refine bodyPost_ret (v := .tuple #[Tm.zero.v, .bool false]) (by simp [results, Try.results102, go_sem, Tm.v, Tm.zero]) rfl ?_
  exact ⟨by (repeat (first | exact Below.refl _ _ | assumption | (refine Below.setCell ?_ (by first | omega | (simp; done) | (simp; omega)) _) | (refine Below.alloc ?_ (by first | omega | (simp; done) | (simp; omega)) _) | (refine below_drewN ?_ _) | (refine Below.drew ?_))), .inl ⟨rfl, rfl⟩⟩
end Go.Proofs.Ytmnekhliblkibaa
end
