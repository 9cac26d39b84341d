/- The contract of der.Bits. -/
import Derived.Test.YtadkiildjehdmaaDoorBase
import Derived.Test.YtadkiildjehdmaaDoorDer8
import Derived.BigQuiet
import Derived.Deep.QuietTactic
import Derived.BigRegion
namespace Go.Proofs.YtadkiildjehdmaaDoor
open Go.RowKit
set_option maxRecDepth 100000
set_option linter.unusedVariables false

/-- What a string of bits says. -/
def Der.bits : List UInt8 → Option (List UInt8 × Nat)
  | [] => none
  | b0 :: r => if 7 < b0.toNat ∨ (0 < b0.toNat ∧ r = []) then none
    else if ((b0 :: r).getLastD 0).toNat % 2 ^ b0.toNat = 0 then some (r, b0.toNat) else none

def BitsPost (xs : List UInt8) (w : World) (e : Ending) (w' : World) : Prop :=
  Below w.heap.size w w' ∧
  ((Der.bits xs = none ∧ e = .returned (.tuple #[.slice none 0 0, .int .i64 0, .bool false])) ∨
   ∃ ys k A n c, Der.bits xs = some (ys, k) ∧ e = .returned (.tuple #[.slice A n c, .int .i64 (k : Int), .bool true]) ∧ OwnB w' w.heap.size w'.heap.size (.slice A n c) ys)

theorem and_mask (x : UInt8) (k : Nat) (hk : k ≤ 7) : bits .and .u8 (x.toNat : Int) ((2 ^ k - 1 : Nat) : Int) = ((x.toNat % 2 ^ k : Nat) : Int) := by
  have h2 : 2 ^ k ≤ 2 ^ 7 := Nat.pow_le_pow_right (by omega) hk
  rw [u8_and_nat _ _ x.toNat_lt (by omega), Nat.and_two_pow_sub_one_eq_mod]

theorem bits_nil (A : Option Addr) (c : Nat) (xs : List UInt8) (w : World) (hx : Hid (Der.bits xs = none)) :
    Calls Tryd.prog 13 #[.slice A 0 c] w (BitsPost xs w) := by
  go_enter Tryd.func13, Tryd.ntmps13
  go_wp2
  go_ret3
  exact ⟨Below.refl _ _, .inl ⟨hx.out, rfl⟩⟩

theorem bits_big (b o n c : Nat) (x0 : UInt8) (xs : List UInt8) (w : World) (h0 : 0 < n)
    (hc0 : w.cell? ⟨b, o, none⟩ = some (.int .u8 (x0.toNat : Int))) (h8 : (7 : Int) < x0.toNat) (hx : Hid (Der.bits xs = none)) :
    Calls Tryd.prog 13 #[.slice (some ⟨b, o, none⟩) n c] w (BitsPost xs w) := by
  have hne : ((n : Int) == 0) = false := by simp; omega
  go_enter Tryd.func13, Tryd.ntmps13
  go_wp2
  go_ret3
  exact ⟨Below.refl _ _, .inl ⟨hx.out, rfl⟩⟩

theorem bits_alone (b o c : Nat) (x0 : UInt8) (xs : List UInt8) (w : World)
    (hc0 : w.cell? ⟨b, o, none⟩ = some (.int .u8 (x0.toNat : Int))) (h7 : ¬ (7 : Int) < x0.toNat) (h8 : (0 : Int) < x0.toNat) (hx : Hid (Der.bits xs = none)) :
    Calls Tryd.prog 13 #[.slice (some ⟨b, o, none⟩) 1 c] w (BitsPost xs w) := by
  go_enter Tryd.func13, Tryd.ntmps13
  go_wp2
  go_ret3
  exact ⟨Below.refl _ _, .inl ⟨hx.out, rfl⟩⟩


set_option maxHeartbeats 400000 in
theorem bits_no_0 (b o n c m : Nat) (x0 xl : UInt8) (xs : List UInt8) (w : World) (h0 : 0 < n) (hm : m < n)
    (hc0 : w.cell? ⟨b, o, none⟩ = some (.int .u8 0)) (hcl : w.cell? ⟨b, o + m, none⟩ = some (.int .u8 (xl.toNat : Int))) (hw : IntKind.i64.wrap ((n : Int) - 1) = (m : Int)) (hml : (m : Int) < n) (hbt : (bits .and .u8 (xl.toNat : Int) 0 != 0) = true) (hx : Hid (Der.bits xs = none)) :
    Calls Tryd.prog 13 #[.slice (some ⟨b, o, none⟩) n c] w (BitsPost xs w) := by
  have hne : ((n : Int) == 0) = false := by simp; omega
  go_enter Tryd.func13, Tryd.ntmps13
  go_wp2
  go_quiet (fail)
  go_wp2
  go_ret3
  exact ⟨(by (repeat (first | exact Below.refl _ _ | assumption | (refine Below.setCell ?_ (by first | omega | (simp; done) | (simp; omega)) _) | (refine Below.alloc ?_ (by first | omega | (simp; done) | (simp; omega)) _) | (refine below_drewN ?_ _) | (refine Below.drew ?_)))), .inl ⟨hx.out, rfl⟩⟩

set_option maxHeartbeats 400000 in
theorem bits_yes_0 (b o n c m : Nat) (x0 xl : UInt8) (r : List UInt8) (w : World) (h : Rd w w.heap.size (some ⟨b, o, none⟩) n c (x0 :: r)) (hn : n ≤ 1099511627776) (h0 : 0 < n) (hm : m < n)
    (hc0 : w.cell? ⟨b, o, none⟩ = some (.int .u8 0)) (hcl : w.cell? ⟨b, o + m, none⟩ = some (.int .u8 (xl.toNat : Int))) (hw : IntKind.i64.wrap ((n : Int) - 1) = (m : Int)) (hml : (m : Int) < n) (hbt : (bits .and .u8 (xl.toNat : Int) 0 != 0) = false) (hx : Hid (Der.bits (x0 :: r) = some (r, 0))) :
    Calls Tryd.prog 13 #[.slice (some ⟨b, o, none⟩) n c] w (BitsPost (x0 :: r) w) := by
  have hne : ((n : Int) == 0) = false := by simp; omega
  obtain ⟨A1, hr1, _, hcut⟩ := run_cut_lo h 1 1 rfl (by omega)
  have HR := Lib.hid hr1
  clear hr1 h
  go_enter Tryd.func13, Tryd.ntmps13
  go_wp2
  go_quiet (fail)
  go_wp2_with fail
  refine (clone_any A1 (n - 1) (c - 1) _ _ (HR.out.drewN _) (by omega)).mono ?_
  rintro e w1 ⟨A1, n1, c1, rfl, ho1, hb1⟩
  go_wp2
  go_ret3
  exact ⟨Below.trans (by (repeat (first | exact Below.refl _ _ | assumption | (refine Below.setCell ?_ (by first | omega | (simp; done) | (simp; omega)) _) | (refine Below.alloc ?_ (by first | omega | (simp; done) | (simp; omega)) _) | (refine below_drewN ?_ _) | (refine Below.drew ?_)))) hb1, .inr ⟨_, _, _, _, _, hx.out, rfl, ho1⟩⟩


set_option maxHeartbeats 400000 in
theorem bits_no_1 (b o n c m : Nat) (x0 xl : UInt8) (xs : List UInt8) (w : World) (h0 : 0 < n) (hm : m < n)
    (hc0 : w.cell? ⟨b, o, none⟩ = some (.int .u8 1)) (hcl : w.cell? ⟨b, o + m, none⟩ = some (.int .u8 (xl.toNat : Int)))
    (hn1 : ((n : Int) == 1) = false) (hw : IntKind.i64.wrap ((n : Int) - 1) = (m : Int)) (hml : (m : Int) < n) (hbt : (bits .and .u8 (xl.toNat : Int) 1 != 0) = true) (hx : Hid (Der.bits xs = none)) :
    Calls Tryd.prog 13 #[.slice (some ⟨b, o, none⟩) n c] w (BitsPost xs w) := by
  have hne : ((n : Int) == 0) = false := by simp; omega
  go_enter Tryd.func13, Tryd.ntmps13
  go_wp2
  go_quiet (fail)
  go_wp2
  go_ret3
  exact ⟨(by (repeat (first | exact Below.refl _ _ | assumption | (refine Below.setCell ?_ (by first | omega | (simp; done) | (simp; omega)) _) | (refine Below.alloc ?_ (by first | omega | (simp; done) | (simp; omega)) _) | (refine below_drewN ?_ _) | (refine Below.drew ?_)))), .inl ⟨hx.out, rfl⟩⟩

set_option maxHeartbeats 400000 in
theorem bits_yes_1 (b o n c m : Nat) (x0 xl : UInt8) (r : List UInt8) (w : World) (h : Rd w w.heap.size (some ⟨b, o, none⟩) n c (x0 :: r)) (hn : n ≤ 1099511627776) (h0 : 0 < n) (hm : m < n)
    (hc0 : w.cell? ⟨b, o, none⟩ = some (.int .u8 1)) (hcl : w.cell? ⟨b, o + m, none⟩ = some (.int .u8 (xl.toNat : Int)))
    (hn1 : ((n : Int) == 1) = false) (hw : IntKind.i64.wrap ((n : Int) - 1) = (m : Int)) (hml : (m : Int) < n) (hbt : (bits .and .u8 (xl.toNat : Int) 1 != 0) = false) (hx : Hid (Der.bits (x0 :: r) = some (r, 1))) :
    Calls Tryd.prog 13 #[.slice (some ⟨b, o, none⟩) n c] w (BitsPost (x0 :: r) w) := by
  have hne : ((n : Int) == 0) = false := by simp; omega
  obtain ⟨A1, hr1, _, hcut⟩ := run_cut_lo h 1 1 rfl (by omega)
  have HR := Lib.hid hr1
  clear hr1 h
  go_enter Tryd.func13, Tryd.ntmps13
  go_wp2
  go_quiet (fail)
  go_wp2_with fail
  refine (clone_any A1 (n - 1) (c - 1) _ _ (HR.out.drewN _) (by omega)).mono ?_
  rintro e w1 ⟨A1, n1, c1, rfl, ho1, hb1⟩
  go_wp2
  go_ret3
  exact ⟨Below.trans (by (repeat (first | exact Below.refl _ _ | assumption | (refine Below.setCell ?_ (by first | omega | (simp; done) | (simp; omega)) _) | (refine Below.alloc ?_ (by first | omega | (simp; done) | (simp; omega)) _) | (refine below_drewN ?_ _) | (refine Below.drew ?_)))) hb1, .inr ⟨_, _, _, _, _, hx.out, rfl, ho1⟩⟩


set_option maxHeartbeats 400000 in
theorem bits_no_2 (b o n c m : Nat) (x0 xl : UInt8) (xs : List UInt8) (w : World) (h0 : 0 < n) (hm : m < n)
    (hc0 : w.cell? ⟨b, o, none⟩ = some (.int .u8 2)) (hcl : w.cell? ⟨b, o + m, none⟩ = some (.int .u8 (xl.toNat : Int)))
    (hn1 : ((n : Int) == 1) = false) (hw : IntKind.i64.wrap ((n : Int) - 1) = (m : Int)) (hml : (m : Int) < n) (hbt : (bits .and .u8 (xl.toNat : Int) 3 != 0) = true) (hx : Hid (Der.bits xs = none)) :
    Calls Tryd.prog 13 #[.slice (some ⟨b, o, none⟩) n c] w (BitsPost xs w) := by
  have hne : ((n : Int) == 0) = false := by simp; omega
  go_enter Tryd.func13, Tryd.ntmps13
  go_wp2
  go_quiet (fail)
  go_wp2
  go_ret3
  exact ⟨(by (repeat (first | exact Below.refl _ _ | assumption | (refine Below.setCell ?_ (by first | omega | (simp; done) | (simp; omega)) _) | (refine Below.alloc ?_ (by first | omega | (simp; done) | (simp; omega)) _) | (refine below_drewN ?_ _) | (refine Below.drew ?_)))), .inl ⟨hx.out, rfl⟩⟩

set_option maxHeartbeats 400000 in
theorem bits_yes_2 (b o n c m : Nat) (x0 xl : UInt8) (r : List UInt8) (w : World) (h : Rd w w.heap.size (some ⟨b, o, none⟩) n c (x0 :: r)) (hn : n ≤ 1099511627776) (h0 : 0 < n) (hm : m < n)
    (hc0 : w.cell? ⟨b, o, none⟩ = some (.int .u8 2)) (hcl : w.cell? ⟨b, o + m, none⟩ = some (.int .u8 (xl.toNat : Int)))
    (hn1 : ((n : Int) == 1) = false) (hw : IntKind.i64.wrap ((n : Int) - 1) = (m : Int)) (hml : (m : Int) < n) (hbt : (bits .and .u8 (xl.toNat : Int) 3 != 0) = false) (hx : Hid (Der.bits (x0 :: r) = some (r, 2))) :
    Calls Tryd.prog 13 #[.slice (some ⟨b, o, none⟩) n c] w (BitsPost (x0 :: r) w) := by
  have hne : ((n : Int) == 0) = false := by simp; omega
  obtain ⟨A1, hr1, _, hcut⟩ := run_cut_lo h 1 1 rfl (by omega)
  have HR := Lib.hid hr1
  clear hr1 h
  go_enter Tryd.func13, Tryd.ntmps13
  go_wp2
  go_quiet (fail)
  go_wp2_with fail
  refine (clone_any A1 (n - 1) (c - 1) _ _ (HR.out.drewN _) (by omega)).mono ?_
  rintro e w1 ⟨A1, n1, c1, rfl, ho1, hb1⟩
  go_wp2
  go_ret3
  exact ⟨Below.trans (by (repeat (first | exact Below.refl _ _ | assumption | (refine Below.setCell ?_ (by first | omega | (simp; done) | (simp; omega)) _) | (refine Below.alloc ?_ (by first | omega | (simp; done) | (simp; omega)) _) | (refine below_drewN ?_ _) | (refine Below.drew ?_)))) hb1, .inr ⟨_, _, _, _, _, hx.out, rfl, ho1⟩⟩


set_option maxHeartbeats 400000 in
theorem bits_no_3 (b o n c m : Nat) (x0 xl : UInt8) (xs : List UInt8) (w : World) (h0 : 0 < n) (hm : m < n)
    (hc0 : w.cell? ⟨b, o, none⟩ = some (.int .u8 3)) (hcl : w.cell? ⟨b, o + m, none⟩ = some (.int .u8 (xl.toNat : Int)))
    (hn1 : ((n : Int) == 1) = false) (hw : IntKind.i64.wrap ((n : Int) - 1) = (m : Int)) (hml : (m : Int) < n) (hbt : (bits .and .u8 (xl.toNat : Int) 7 != 0) = true) (hx : Hid (Der.bits xs = none)) :
    Calls Tryd.prog 13 #[.slice (some ⟨b, o, none⟩) n c] w (BitsPost xs w) := by
  have hne : ((n : Int) == 0) = false := by simp; omega
  go_enter Tryd.func13, Tryd.ntmps13
  go_wp2
  go_quiet (fail)
  go_wp2
  go_ret3
  exact ⟨(by (repeat (first | exact Below.refl _ _ | assumption | (refine Below.setCell ?_ (by first | omega | (simp; done) | (simp; omega)) _) | (refine Below.alloc ?_ (by first | omega | (simp; done) | (simp; omega)) _) | (refine below_drewN ?_ _) | (refine Below.drew ?_)))), .inl ⟨hx.out, rfl⟩⟩

set_option maxHeartbeats 400000 in
theorem bits_yes_3 (b o n c m : Nat) (x0 xl : UInt8) (r : List UInt8) (w : World) (h : Rd w w.heap.size (some ⟨b, o, none⟩) n c (x0 :: r)) (hn : n ≤ 1099511627776) (h0 : 0 < n) (hm : m < n)
    (hc0 : w.cell? ⟨b, o, none⟩ = some (.int .u8 3)) (hcl : w.cell? ⟨b, o + m, none⟩ = some (.int .u8 (xl.toNat : Int)))
    (hn1 : ((n : Int) == 1) = false) (hw : IntKind.i64.wrap ((n : Int) - 1) = (m : Int)) (hml : (m : Int) < n) (hbt : (bits .and .u8 (xl.toNat : Int) 7 != 0) = false) (hx : Hid (Der.bits (x0 :: r) = some (r, 3))) :
    Calls Tryd.prog 13 #[.slice (some ⟨b, o, none⟩) n c] w (BitsPost (x0 :: r) w) := by
  have hne : ((n : Int) == 0) = false := by simp; omega
  obtain ⟨A1, hr1, _, hcut⟩ := run_cut_lo h 1 1 rfl (by omega)
  have HR := Lib.hid hr1
  clear hr1 h
  go_enter Tryd.func13, Tryd.ntmps13
  go_wp2
  go_quiet (fail)
  go_wp2_with fail
  refine (clone_any A1 (n - 1) (c - 1) _ _ (HR.out.drewN _) (by omega)).mono ?_
  rintro e w1 ⟨A1, n1, c1, rfl, ho1, hb1⟩
  go_wp2
  go_ret3
  exact ⟨Below.trans (by (repeat (first | exact Below.refl _ _ | assumption | (refine Below.setCell ?_ (by first | omega | (simp; done) | (simp; omega)) _) | (refine Below.alloc ?_ (by first | omega | (simp; done) | (simp; omega)) _) | (refine below_drewN ?_ _) | (refine Below.drew ?_)))) hb1, .inr ⟨_, _, _, _, _, hx.out, rfl, ho1⟩⟩


set_option maxHeartbeats 400000 in
theorem bits_no_4 (b o n c m : Nat) (x0 xl : UInt8) (xs : List UInt8) (w : World) (h0 : 0 < n) (hm : m < n)
    (hc0 : w.cell? ⟨b, o, none⟩ = some (.int .u8 4)) (hcl : w.cell? ⟨b, o + m, none⟩ = some (.int .u8 (xl.toNat : Int)))
    (hn1 : ((n : Int) == 1) = false) (hw : IntKind.i64.wrap ((n : Int) - 1) = (m : Int)) (hml : (m : Int) < n) (hbt : (bits .and .u8 (xl.toNat : Int) 15 != 0) = true) (hx : Hid (Der.bits xs = none)) :
    Calls Tryd.prog 13 #[.slice (some ⟨b, o, none⟩) n c] w (BitsPost xs w) := by
  have hne : ((n : Int) == 0) = false := by simp; omega
  go_enter Tryd.func13, Tryd.ntmps13
  go_wp2
  go_quiet (fail)
  go_wp2
  go_ret3
  exact ⟨(by (repeat (first | exact Below.refl _ _ | assumption | (refine Below.setCell ?_ (by first | omega | (simp; done) | (simp; omega)) _) | (refine Below.alloc ?_ (by first | omega | (simp; done) | (simp; omega)) _) | (refine below_drewN ?_ _) | (refine Below.drew ?_)))), .inl ⟨hx.out, rfl⟩⟩

set_option maxHeartbeats 400000 in
theorem bits_yes_4 (b o n c m : Nat) (x0 xl : UInt8) (r : List UInt8) (w : World) (h : Rd w w.heap.size (some ⟨b, o, none⟩) n c (x0 :: r)) (hn : n ≤ 1099511627776) (h0 : 0 < n) (hm : m < n)
    (hc0 : w.cell? ⟨b, o, none⟩ = some (.int .u8 4)) (hcl : w.cell? ⟨b, o + m, none⟩ = some (.int .u8 (xl.toNat : Int)))
    (hn1 : ((n : Int) == 1) = false) (hw : IntKind.i64.wrap ((n : Int) - 1) = (m : Int)) (hml : (m : Int) < n) (hbt : (bits .and .u8 (xl.toNat : Int) 15 != 0) = false) (hx : Hid (Der.bits (x0 :: r) = some (r, 4))) :
    Calls Tryd.prog 13 #[.slice (some ⟨b, o, none⟩) n c] w (BitsPost (x0 :: r) w) := by
  have hne : ((n : Int) == 0) = false := by simp; omega
  obtain ⟨A1, hr1, _, hcut⟩ := run_cut_lo h 1 1 rfl (by omega)
  have HR := Lib.hid hr1
  clear hr1 h
  go_enter Tryd.func13, Tryd.ntmps13
  go_wp2
  go_quiet (fail)
  go_wp2_with fail
  refine (clone_any A1 (n - 1) (c - 1) _ _ (HR.out.drewN _) (by omega)).mono ?_
  rintro e w1 ⟨A1, n1, c1, rfl, ho1, hb1⟩
  go_wp2
  go_ret3
  exact ⟨Below.trans (by (repeat (first | exact Below.refl _ _ | assumption | (refine Below.setCell ?_ (by first | omega | (simp; done) | (simp; omega)) _) | (refine Below.alloc ?_ (by first | omega | (simp; done) | (simp; omega)) _) | (refine below_drewN ?_ _) | (refine Below.drew ?_)))) hb1, .inr ⟨_, _, _, _, _, hx.out, rfl, ho1⟩⟩


set_option maxHeartbeats 400000 in
theorem bits_no_5 (b o n c m : Nat) (x0 xl : UInt8) (xs : List UInt8) (w : World) (h0 : 0 < n) (hm : m < n)
    (hc0 : w.cell? ⟨b, o, none⟩ = some (.int .u8 5)) (hcl : w.cell? ⟨b, o + m, none⟩ = some (.int .u8 (xl.toNat : Int)))
    (hn1 : ((n : Int) == 1) = false) (hw : IntKind.i64.wrap ((n : Int) - 1) = (m : Int)) (hml : (m : Int) < n) (hbt : (bits .and .u8 (xl.toNat : Int) 31 != 0) = true) (hx : Hid (Der.bits xs = none)) :
    Calls Tryd.prog 13 #[.slice (some ⟨b, o, none⟩) n c] w (BitsPost xs w) := by
  have hne : ((n : Int) == 0) = false := by simp; omega
  go_enter Tryd.func13, Tryd.ntmps13
  go_wp2
  go_quiet (fail)
  go_wp2
  go_ret3
  exact ⟨(by (repeat (first | exact Below.refl _ _ | assumption | (refine Below.setCell ?_ (by first | omega | (simp; done) | (simp; omega)) _) | (refine Below.alloc ?_ (by first | omega | (simp; done) | (simp; omega)) _) | (refine below_drewN ?_ _) | (refine Below.drew ?_)))), .inl ⟨hx.out, rfl⟩⟩

set_option maxHeartbeats 400000 in
theorem bits_yes_5 (b o n c m : Nat) (x0 xl : UInt8) (r : List UInt8) (w : World) (h : Rd w w.heap.size (some ⟨b, o, none⟩) n c (x0 :: r)) (hn : n ≤ 1099511627776) (h0 : 0 < n) (hm : m < n)
    (hc0 : w.cell? ⟨b, o, none⟩ = some (.int .u8 5)) (hcl : w.cell? ⟨b, o + m, none⟩ = some (.int .u8 (xl.toNat : Int)))
    (hn1 : ((n : Int) == 1) = false) (hw : IntKind.i64.wrap ((n : Int) - 1) = (m : Int)) (hml : (m : Int) < n) (hbt : (bits .and .u8 (xl.toNat : Int) 31 != 0) = false) (hx : Hid (Der.bits (x0 :: r) = some (r, 5))) :
    Calls Tryd.prog 13 #[.slice (some ⟨b, o, none⟩) n c] w (BitsPost (x0 :: r) w) := by
  have hne : ((n : Int) == 0) = false := by simp; omega
  obtain ⟨A1, hr1, _, hcut⟩ := run_cut_lo h 1 1 rfl (by omega)
  have HR := Lib.hid hr1
  clear hr1 h
  go_enter Tryd.func13, Tryd.ntmps13
  go_wp2
  go_quiet (fail)
  go_wp2_with fail
  refine (clone_any A1 (n - 1) (c - 1) _ _ (HR.out.drewN _) (by omega)).mono ?_
  rintro e w1 ⟨A1, n1, c1, rfl, ho1, hb1⟩
  go_wp2
  go_ret3
  exact ⟨Below.trans (by (repeat (first | exact Below.refl _ _ | assumption | (refine Below.setCell ?_ (by first | omega | (simp; done) | (simp; omega)) _) | (refine Below.alloc ?_ (by first | omega | (simp; done) | (simp; omega)) _) | (refine below_drewN ?_ _) | (refine Below.drew ?_)))) hb1, .inr ⟨_, _, _, _, _, hx.out, rfl, ho1⟩⟩


set_option maxHeartbeats 400000 in
theorem bits_no_6 (b o n c m : Nat) (x0 xl : UInt8) (xs : List UInt8) (w : World) (h0 : 0 < n) (hm : m < n)
    (hc0 : w.cell? ⟨b, o, none⟩ = some (.int .u8 6)) (hcl : w.cell? ⟨b, o + m, none⟩ = some (.int .u8 (xl.toNat : Int)))
    (hn1 : ((n : Int) == 1) = false) (hw : IntKind.i64.wrap ((n : Int) - 1) = (m : Int)) (hml : (m : Int) < n) (hbt : (bits .and .u8 (xl.toNat : Int) 63 != 0) = true) (hx : Hid (Der.bits xs = none)) :
    Calls Tryd.prog 13 #[.slice (some ⟨b, o, none⟩) n c] w (BitsPost xs w) := by
  have hne : ((n : Int) == 0) = false := by simp; omega
  go_enter Tryd.func13, Tryd.ntmps13
  go_wp2
  go_quiet (fail)
  go_wp2
  go_ret3
  exact ⟨(by (repeat (first | exact Below.refl _ _ | assumption | (refine Below.setCell ?_ (by first | omega | (simp; done) | (simp; omega)) _) | (refine Below.alloc ?_ (by first | omega | (simp; done) | (simp; omega)) _) | (refine below_drewN ?_ _) | (refine Below.drew ?_)))), .inl ⟨hx.out, rfl⟩⟩

set_option maxHeartbeats 400000 in
theorem bits_yes_6 (b o n c m : Nat) (x0 xl : UInt8) (r : List UInt8) (w : World) (h : Rd w w.heap.size (some ⟨b, o, none⟩) n c (x0 :: r)) (hn : n ≤ 1099511627776) (h0 : 0 < n) (hm : m < n)
    (hc0 : w.cell? ⟨b, o, none⟩ = some (.int .u8 6)) (hcl : w.cell? ⟨b, o + m, none⟩ = some (.int .u8 (xl.toNat : Int)))
    (hn1 : ((n : Int) == 1) = false) (hw : IntKind.i64.wrap ((n : Int) - 1) = (m : Int)) (hml : (m : Int) < n) (hbt : (bits .and .u8 (xl.toNat : Int) 63 != 0) = false) (hx : Hid (Der.bits (x0 :: r) = some (r, 6))) :
    Calls Tryd.prog 13 #[.slice (some ⟨b, o, none⟩) n c] w (BitsPost (x0 :: r) w) := by
  have hne : ((n : Int) == 0) = false := by simp; omega
  obtain ⟨A1, hr1, _, hcut⟩ := run_cut_lo h 1 1 rfl (by omega)
  have HR := Lib.hid hr1
  clear hr1 h
  go_enter Tryd.func13, Tryd.ntmps13
  go_wp2
  go_quiet (fail)
  go_wp2_with fail
  refine (clone_any A1 (n - 1) (c - 1) _ _ (HR.out.drewN _) (by omega)).mono ?_
  rintro e w1 ⟨A1, n1, c1, rfl, ho1, hb1⟩
  go_wp2
  go_ret3
  exact ⟨Below.trans (by (repeat (first | exact Below.refl _ _ | assumption | (refine Below.setCell ?_ (by first | omega | (simp; done) | (simp; omega)) _) | (refine Below.alloc ?_ (by first | omega | (simp; done) | (simp; omega)) _) | (refine below_drewN ?_ _) | (refine Below.drew ?_)))) hb1, .inr ⟨_, _, _, _, _, hx.out, rfl, ho1⟩⟩


set_option maxHeartbeats 400000 in
theorem bits_no_7 (b o n c m : Nat) (x0 xl : UInt8) (xs : List UInt8) (w : World) (h0 : 0 < n) (hm : m < n)
    (hc0 : w.cell? ⟨b, o, none⟩ = some (.int .u8 7)) (hcl : w.cell? ⟨b, o + m, none⟩ = some (.int .u8 (xl.toNat : Int)))
    (hn1 : ((n : Int) == 1) = false) (hw : IntKind.i64.wrap ((n : Int) - 1) = (m : Int)) (hml : (m : Int) < n) (hbt : (bits .and .u8 (xl.toNat : Int) 127 != 0) = true) (hx : Hid (Der.bits xs = none)) :
    Calls Tryd.prog 13 #[.slice (some ⟨b, o, none⟩) n c] w (BitsPost xs w) := by
  have hne : ((n : Int) == 0) = false := by simp; omega
  go_enter Tryd.func13, Tryd.ntmps13
  go_wp2
  go_quiet (fail)
  go_wp2
  go_ret3
  exact ⟨(by (repeat (first | exact Below.refl _ _ | assumption | (refine Below.setCell ?_ (by first | omega | (simp; done) | (simp; omega)) _) | (refine Below.alloc ?_ (by first | omega | (simp; done) | (simp; omega)) _) | (refine below_drewN ?_ _) | (refine Below.drew ?_)))), .inl ⟨hx.out, rfl⟩⟩

set_option maxHeartbeats 400000 in
theorem bits_yes_7 (b o n c m : Nat) (x0 xl : UInt8) (r : List UInt8) (w : World) (h : Rd w w.heap.size (some ⟨b, o, none⟩) n c (x0 :: r)) (hn : n ≤ 1099511627776) (h0 : 0 < n) (hm : m < n)
    (hc0 : w.cell? ⟨b, o, none⟩ = some (.int .u8 7)) (hcl : w.cell? ⟨b, o + m, none⟩ = some (.int .u8 (xl.toNat : Int)))
    (hn1 : ((n : Int) == 1) = false) (hw : IntKind.i64.wrap ((n : Int) - 1) = (m : Int)) (hml : (m : Int) < n) (hbt : (bits .and .u8 (xl.toNat : Int) 127 != 0) = false) (hx : Hid (Der.bits (x0 :: r) = some (r, 7))) :
    Calls Tryd.prog 13 #[.slice (some ⟨b, o, none⟩) n c] w (BitsPost (x0 :: r) w) := by
  have hne : ((n : Int) == 0) = false := by simp; omega
  obtain ⟨A1, hr1, _, hcut⟩ := run_cut_lo h 1 1 rfl (by omega)
  have HR := Lib.hid hr1
  clear hr1 h
  go_enter Tryd.func13, Tryd.ntmps13
  go_wp2
  go_quiet (fail)
  go_wp2_with fail
  refine (clone_any A1 (n - 1) (c - 1) _ _ (HR.out.drewN _) (by omega)).mono ?_
  rintro e w1 ⟨A1, n1, c1, rfl, ho1, hb1⟩
  go_wp2
  go_ret3
  exact ⟨Below.trans (by (repeat (first | exact Below.refl _ _ | assumption | (refine Below.setCell ?_ (by first | omega | (simp; done) | (simp; omega)) _) | (refine Below.alloc ?_ (by first | omega | (simp; done) | (simp; omega)) _) | (refine below_drewN ?_ _) | (refine Below.drew ?_)))) hb1, .inr ⟨_, _, _, _, _, hx.out, rfl, ho1⟩⟩


theorem last_get {xs : List UInt8} {m : Nat} (h : xs.length = m + 1) : xs[m]? = some (xs.getLastD 0) := by
  rw [List.getLastD_eq_getLast?, List.getLast?_eq_getElem?, show xs.length - 1 = m from by omega, List.getElem?_eq_getElem (by omega)]
  rfl

theorem bits_any (A : Option Addr) (n c : Nat) (xs : List UInt8) (w : World) (h : Rd w w.heap.size A n c xs) (hn : n ≤ 1099511627776) :
    Calls Tryd.prog 13 #[.slice A n c] w (BitsPost xs w) := by
  have hl := h.len
  rcases xs with _ | ⟨x0, r⟩
  · obtain rfl : n = 0 := by simpa using hl.symm
    exact bits_nil A c [] w (Lib.hid rfl)
  have h0 : 0 < n := by simp at hl; omega
  obtain ⟨b, o, rfl, hb, hcell⟩ := h.at_ h0
  have hc0 := hcell 0 x0 rfl
  rw [Nat.add_zero] at hc0
  by_cases h8 : 7 < x0.toNat
  · exact bits_big b o n c x0 _ w h0 hc0 (by omega) (Lib.hid (by simp [Der.bits, h8]))
  by_cases h1 : 0 < x0.toNat ∧ r = []
  · obtain ⟨h1, rfl⟩ := h1
    obtain rfl : n = 1 := by simpa using hl.symm
    exact bits_alone b o c x0 _ w hc0 (by omega) (by omega) (Lib.hid (by simp [Der.bits, h1]))
  obtain ⟨m, rfl⟩ : ∃ m, n = m + 1 := ⟨n - 1, by omega⟩
  obtain ⟨xl, hxl⟩ : ∃ xl, (x0 :: r).getLastD 0 = xl := ⟨_, rfl⟩
  have hcl := hcell m xl (by rw [last_get (by simpa using hl), hxl])
  have hw : IntKind.i64.wrap (((m + 1 : Nat) : Int) - 1) = (m : Int) := by rw [IntKind.wrap_i64]; omega
  have hn1 : 0 < x0.toNat → ((((m + 1 : Nat) : Int)) == 1) = false := by
    intro h0
    have : r ≠ [] := fun e => h1 ⟨h0, e⟩
    have := List.length_pos_iff.2 this
    simp at hl
    simp; omega
  have hyes : xl.toNat % 2 ^ x0.toNat = 0 → Der.bits (x0 :: r) = some (r, x0.toNat) := by
    intro e
    rw [Der.bits, if_neg (by rintro (h | h); exact h8 h; exact h1 h), hxl, if_pos e]
  have hno : xl.toNat % 2 ^ x0.toNat ≠ 0 → Der.bits (x0 :: r) = none := by
    intro e
    rw [Der.bits, if_neg (by rintro (h | h); exact h8 h; exact h1 h), hxl, if_neg e]
  have hmk := fun k (hk : k ≤ 7) => and_mask xl k hk
  have hml : (m : Int) < (m + 1 : Nat) := by omega
  have hk : x0.toNat = 0 ∨ x0.toNat = 1 ∨ x0.toNat = 2 ∨ x0.toNat = 3 ∨ x0.toNat = 4 ∨ x0.toNat = 5 ∨ x0.toNat = 6 ∨ x0.toNat = 7 := by omega
  rcases hk with hk | hk | hk | hk | hk | hk | hk | hk
  · rw [hk] at hc0 hyes hno hn1
    have hm := hmk 0 (by omega)
    by_cases hz : xl.toNat % 2 ^ 0 = 0
    · rw [hz] at hm
      exact bits_yes_0 b o (m + 1) c m x0 xl r w h hn h0 (by omega) hc0 hcl  hw hml (by rw [show (0 : Int) = ((2 ^ 0 - 1 : Nat) : Int) from rfl, hm]; rfl) (Lib.hid (hyes hz))
    · exact bits_no_0 b o (m + 1) c m x0 xl _ w h0 (by omega) hc0 hcl  hw hml (by rw [show (0 : Int) = ((2 ^ 0 - 1 : Nat) : Int) from rfl, hm]; simp only [bne_iff_ne, ne_eq]; omega) (Lib.hid (hno hz))
  · rw [hk] at hc0 hyes hno hn1
    have hm := hmk 1 (by omega)
    by_cases hz : xl.toNat % 2 ^ 1 = 0
    · rw [hz] at hm
      exact bits_yes_1 b o (m + 1) c m x0 xl r w h hn h0 (by omega) hc0 hcl (hn1 (by omega)) hw hml (by rw [show (1 : Int) = ((2 ^ 1 - 1 : Nat) : Int) from rfl, hm]; rfl) (Lib.hid (hyes hz))
    · exact bits_no_1 b o (m + 1) c m x0 xl _ w h0 (by omega) hc0 hcl (hn1 (by omega)) hw hml (by rw [show (1 : Int) = ((2 ^ 1 - 1 : Nat) : Int) from rfl, hm]; simp only [bne_iff_ne, ne_eq]; omega) (Lib.hid (hno hz))
  · rw [hk] at hc0 hyes hno hn1
    have hm := hmk 2 (by omega)
    by_cases hz : xl.toNat % 2 ^ 2 = 0
    · rw [hz] at hm
      exact bits_yes_2 b o (m + 1) c m x0 xl r w h hn h0 (by omega) hc0 hcl (hn1 (by omega)) hw hml (by rw [show (3 : Int) = ((2 ^ 2 - 1 : Nat) : Int) from rfl, hm]; rfl) (Lib.hid (hyes hz))
    · exact bits_no_2 b o (m + 1) c m x0 xl _ w h0 (by omega) hc0 hcl (hn1 (by omega)) hw hml (by rw [show (3 : Int) = ((2 ^ 2 - 1 : Nat) : Int) from rfl, hm]; simp only [bne_iff_ne, ne_eq]; omega) (Lib.hid (hno hz))
  · rw [hk] at hc0 hyes hno hn1
    have hm := hmk 3 (by omega)
    by_cases hz : xl.toNat % 2 ^ 3 = 0
    · rw [hz] at hm
      exact bits_yes_3 b o (m + 1) c m x0 xl r w h hn h0 (by omega) hc0 hcl (hn1 (by omega)) hw hml (by rw [show (7 : Int) = ((2 ^ 3 - 1 : Nat) : Int) from rfl, hm]; rfl) (Lib.hid (hyes hz))
    · exact bits_no_3 b o (m + 1) c m x0 xl _ w h0 (by omega) hc0 hcl (hn1 (by omega)) hw hml (by rw [show (7 : Int) = ((2 ^ 3 - 1 : Nat) : Int) from rfl, hm]; simp only [bne_iff_ne, ne_eq]; omega) (Lib.hid (hno hz))
  · rw [hk] at hc0 hyes hno hn1
    have hm := hmk 4 (by omega)
    by_cases hz : xl.toNat % 2 ^ 4 = 0
    · rw [hz] at hm
      exact bits_yes_4 b o (m + 1) c m x0 xl r w h hn h0 (by omega) hc0 hcl (hn1 (by omega)) hw hml (by rw [show (15 : Int) = ((2 ^ 4 - 1 : Nat) : Int) from rfl, hm]; rfl) (Lib.hid (hyes hz))
    · exact bits_no_4 b o (m + 1) c m x0 xl _ w h0 (by omega) hc0 hcl (hn1 (by omega)) hw hml (by rw [show (15 : Int) = ((2 ^ 4 - 1 : Nat) : Int) from rfl, hm]; simp only [bne_iff_ne, ne_eq]; omega) (Lib.hid (hno hz))
  · rw [hk] at hc0 hyes hno hn1
    have hm := hmk 5 (by omega)
    by_cases hz : xl.toNat % 2 ^ 5 = 0
    · rw [hz] at hm
      exact bits_yes_5 b o (m + 1) c m x0 xl r w h hn h0 (by omega) hc0 hcl (hn1 (by omega)) hw hml (by rw [show (31 : Int) = ((2 ^ 5 - 1 : Nat) : Int) from rfl, hm]; rfl) (Lib.hid (hyes hz))
    · exact bits_no_5 b o (m + 1) c m x0 xl _ w h0 (by omega) hc0 hcl (hn1 (by omega)) hw hml (by rw [show (31 : Int) = ((2 ^ 5 - 1 : Nat) : Int) from rfl, hm]; simp only [bne_iff_ne, ne_eq]; omega) (Lib.hid (hno hz))
  · rw [hk] at hc0 hyes hno hn1
    have hm := hmk 6 (by omega)
    by_cases hz : xl.toNat % 2 ^ 6 = 0
    · rw [hz] at hm
      exact bits_yes_6 b o (m + 1) c m x0 xl r w h hn h0 (by omega) hc0 hcl (hn1 (by omega)) hw hml (by rw [show (63 : Int) = ((2 ^ 6 - 1 : Nat) : Int) from rfl, hm]; rfl) (Lib.hid (hyes hz))
    · exact bits_no_6 b o (m + 1) c m x0 xl _ w h0 (by omega) hc0 hcl (hn1 (by omega)) hw hml (by rw [show (63 : Int) = ((2 ^ 6 - 1 : Nat) : Int) from rfl, hm]; simp only [bne_iff_ne, ne_eq]; omega) (Lib.hid (hno hz))
  · rw [hk] at hc0 hyes hno hn1
    have hm := hmk 7 (by omega)
    by_cases hz : xl.toNat % 2 ^ 7 = 0
    · rw [hz] at hm
      exact bits_yes_7 b o (m + 1) c m x0 xl r w h hn h0 (by omega) hc0 hcl (hn1 (by omega)) hw hml (by rw [show (127 : Int) = ((2 ^ 7 - 1 : Nat) : Int) from rfl, hm]; rfl) (Lib.hid (hyes hz))
    · exact bits_no_7 b o (m + 1) c m x0 xl _ w h0 (by omega) hc0 hcl (hn1 (by omega)) hw hml (by rw [show (127 : Int) = ((2 ^ 7 - 1 : Nat) : Int) from rfl, hm]; simp only [bne_iff_ne, ne_eq]; omega) (Lib.hid (hno hz))
end Go.Proofs.YtadkiildjehdmaaDoor
