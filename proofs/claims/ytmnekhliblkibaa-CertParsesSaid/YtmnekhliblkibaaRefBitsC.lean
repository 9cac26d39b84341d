/- The contract of the reference's Bits. -/
import Derived.Test.YtmnekhliblkibaaGA
import Derived.Test.YtmnekhliblkibaaGC
import Derived.BigQuiet
import Derived.Deep.QuietTactic
import Derived.BigRegion
namespace Go.Proofs.Ytmnekhliblkibaa
open Go.RowKit
set_option maxRecDepth 100000
set_option linter.unusedVariables false

theorem refBits_nil (A : Option Addr) (c : Nat) (xs : List UInt8) (w : World) (hx : Hid (Der.bits xs = none)) :
    Calls Try.prog 75 #[.slice A 0 c] w (BitsPost xs w) := by
  go_enter Try.func75, Try.ntmps75
  go_wp2
  go_ret3
  exact ⟨Below.refl _ _, .inl ⟨hx.out, rfl⟩⟩

theorem refBits_big (b o n c : Nat) (x0 : UInt8) (xs : List UInt8) (w : World) (h0 : 0 < n)
    (hc0 : w.cell? ⟨b, o, none⟩ = some (.int .u8 (x0.toNat : Int))) (h8 : (7 : Int) < x0.toNat) (hx : Hid (Der.bits xs = none)) :
    Calls Try.prog 75 #[.slice (some ⟨b, o, none⟩) n c] w (BitsPost xs w) := by
  have hne : ((n : Int) == 0) = false := by simp; omega
  go_enter Try.func75, Try.ntmps75
  go_wp2
  go_ret3
  exact ⟨Below.refl _ _, .inl ⟨hx.out, rfl⟩⟩

theorem refBits_alone (b o c : Nat) (x0 : UInt8) (xs : List UInt8) (w : World)
    (hc0 : w.cell? ⟨b, o, none⟩ = some (.int .u8 (x0.toNat : Int))) (h7 : ¬ (7 : Int) < x0.toNat) (h8 : (0 : Int) < x0.toNat) (hx : Hid (Der.bits xs = none)) :
    Calls Try.prog 75 #[.slice (some ⟨b, o, none⟩) 1 c] w (BitsPost xs w) := by
  go_enter Try.func75, Try.ntmps75
  go_wp2
  go_ret3
  exact ⟨Below.refl _ _, .inl ⟨hx.out, rfl⟩⟩


set_option maxHeartbeats 400000 in
theorem refBits_yes_0 (b o n c m : Nat) (x0 xl : UInt8) (r : List UInt8) (w : World) (h : Rd w w.heap.size (some ⟨b, o, none⟩) n c (x0 :: r)) (hn : n ≤ 1099511627776) (h0 : 0 < n) (hm : m < n)
    (hc0 : w.cell? ⟨b, o, none⟩ = some (.int .u8 0)) (hcl : w.cell? ⟨b, o + m, none⟩ = some (.int .u8 (xl.toNat : Int))) (hw : IntKind.i64.wrap ((n : Int) - 1) = (m : Int)) (hml : (m : Int) < n) (hbt : ((xl.toNat : Int) % 1 != 0) = false) (hx : Hid (Der.bits (x0 :: r) = some (r, 0))) :
    Calls Try.prog 75 #[.slice (some ⟨b, o, none⟩) n c] w (BitsPost (x0 :: r) w) := by
  have hne : ((n : Int) == 0) = false := by simp; omega
  obtain ⟨A1, hr1, _, hcut⟩ := run_cut_lo h 1 1 rfl (by omega)
  have HR := Lib.hid hr1
  clear hr1 h
  obtain ⟨b1, hb1⟩ : ∃ b1, ((n : Int) == 1) = b1 := ⟨_, rfl⟩
  cases b1
  all_goals
    go_enter Try.func75, Try.ntmps75
    go_wp2_with fail
    refine (copy_any A1 (n - 1) (c - 1) _ _ HR.out (by omega)).mono ?_
    rintro e w1 ⟨A1, n1, c1, rfl, ho1, hb1⟩
    go_wp2
    go_ret3
    exact ⟨Below.trans (by (repeat (first | exact Below.refl _ _ | assumption | (refine Below.setCell ?_ (by first | omega | (simp; done) | (simp; omega)) _) | (refine Below.alloc ?_ (by first | omega | (simp; done) | (simp; omega)) _) | (refine below_drewN ?_ _) | (refine Below.drew ?_)))) hb1, .inr ⟨_, _, _, _, _, hx.out, rfl, ho1⟩⟩

set_option maxHeartbeats 400000 in
theorem refBits_no_1 (b o n c m : Nat) (x0 xl : UInt8) (xs : List UInt8) (w : World) (h0 : 0 < n) (hm : m < n)
    (hc0 : w.cell? ⟨b, o, none⟩ = some (.int .u8 1)) (hcl : w.cell? ⟨b, o + m, none⟩ = some (.int .u8 (xl.toNat : Int)))
    (hn1 : ((n : Int) == 1) = false) (hw : IntKind.i64.wrap ((n : Int) - 1) = (m : Int)) (hml : (m : Int) < n) (hbt : ((xl.toNat : Int) % 2 != 0) = true) (hx : Hid (Der.bits xs = none)) :
    Calls Try.prog 75 #[.slice (some ⟨b, o, none⟩) n c] w (BitsPost xs w) := by
  have hne : ((n : Int) == 0) = false := by simp; omega
  go_enter Try.func75, Try.ntmps75
  go_wp2
  go_wp2
  go_ret3
  exact ⟨(by (repeat (first | exact Below.refl _ _ | assumption | (refine Below.setCell ?_ (by first | omega | (simp; done) | (simp; omega)) _) | (refine Below.alloc ?_ (by first | omega | (simp; done) | (simp; omega)) _) | (refine below_drewN ?_ _) | (refine Below.drew ?_)))), .inl ⟨hx.out, rfl⟩⟩

set_option maxHeartbeats 400000 in
theorem refBits_yes_1 (b o n c m : Nat) (x0 xl : UInt8) (r : List UInt8) (w : World) (h : Rd w w.heap.size (some ⟨b, o, none⟩) n c (x0 :: r)) (hn : n ≤ 1099511627776) (h0 : 0 < n) (hm : m < n)
    (hc0 : w.cell? ⟨b, o, none⟩ = some (.int .u8 1)) (hcl : w.cell? ⟨b, o + m, none⟩ = some (.int .u8 (xl.toNat : Int)))
    (hn1 : ((n : Int) == 1) = false) (hw : IntKind.i64.wrap ((n : Int) - 1) = (m : Int)) (hml : (m : Int) < n) (hbt : ((xl.toNat : Int) % 2 != 0) = false) (hx : Hid (Der.bits (x0 :: r) = some (r, 1))) :
    Calls Try.prog 75 #[.slice (some ⟨b, o, none⟩) n c] w (BitsPost (x0 :: r) w) := by
  have hne : ((n : Int) == 0) = false := by simp; omega
  obtain ⟨A1, hr1, _, hcut⟩ := run_cut_lo h 1 1 rfl (by omega)
  have HR := Lib.hid hr1
  clear hr1 h
  go_enter Try.func75, Try.ntmps75
  go_wp2_with fail
  refine (copy_any A1 (n - 1) (c - 1) _ _ HR.out (by omega)).mono ?_
  rintro e w1 ⟨A1, n1, c1, rfl, ho1, hb1⟩
  go_wp2
  go_ret3
  exact ⟨Below.trans (by (repeat (first | exact Below.refl _ _ | assumption | (refine Below.setCell ?_ (by first | omega | (simp; done) | (simp; omega)) _) | (refine Below.alloc ?_ (by first | omega | (simp; done) | (simp; omega)) _) | (refine below_drewN ?_ _) | (refine Below.drew ?_)))) hb1, .inr ⟨_, _, _, _, _, hx.out, rfl, ho1⟩⟩


set_option maxHeartbeats 400000 in
theorem refBits_no_2 (b o n c m : Nat) (x0 xl : UInt8) (xs : List UInt8) (w : World) (h0 : 0 < n) (hm : m < n)
    (hc0 : w.cell? ⟨b, o, none⟩ = some (.int .u8 2)) (hcl : w.cell? ⟨b, o + m, none⟩ = some (.int .u8 (xl.toNat : Int)))
    (hn1 : ((n : Int) == 1) = false) (hw : IntKind.i64.wrap ((n : Int) - 1) = (m : Int)) (hml : (m : Int) < n) (hbt : ((xl.toNat : Int) % 4 != 0) = true) (hx : Hid (Der.bits xs = none)) :
    Calls Try.prog 75 #[.slice (some ⟨b, o, none⟩) n c] w (BitsPost xs w) := by
  have hne : ((n : Int) == 0) = false := by simp; omega
  go_enter Try.func75, Try.ntmps75
  go_wp2
  go_wp2
  go_ret3
  exact ⟨(by (repeat (first | exact Below.refl _ _ | assumption | (refine Below.setCell ?_ (by first | omega | (simp; done) | (simp; omega)) _) | (refine Below.alloc ?_ (by first | omega | (simp; done) | (simp; omega)) _) | (refine below_drewN ?_ _) | (refine Below.drew ?_)))), .inl ⟨hx.out, rfl⟩⟩

set_option maxHeartbeats 400000 in
theorem refBits_yes_2 (b o n c m : Nat) (x0 xl : UInt8) (r : List UInt8) (w : World) (h : Rd w w.heap.size (some ⟨b, o, none⟩) n c (x0 :: r)) (hn : n ≤ 1099511627776) (h0 : 0 < n) (hm : m < n)
    (hc0 : w.cell? ⟨b, o, none⟩ = some (.int .u8 2)) (hcl : w.cell? ⟨b, o + m, none⟩ = some (.int .u8 (xl.toNat : Int)))
    (hn1 : ((n : Int) == 1) = false) (hw : IntKind.i64.wrap ((n : Int) - 1) = (m : Int)) (hml : (m : Int) < n) (hbt : ((xl.toNat : Int) % 4 != 0) = false) (hx : Hid (Der.bits (x0 :: r) = some (r, 2))) :
    Calls Try.prog 75 #[.slice (some ⟨b, o, none⟩) n c] w (BitsPost (x0 :: r) w) := by
  have hne : ((n : Int) == 0) = false := by simp; omega
  obtain ⟨A1, hr1, _, hcut⟩ := run_cut_lo h 1 1 rfl (by omega)
  have HR := Lib.hid hr1
  clear hr1 h
  go_enter Try.func75, Try.ntmps75
  go_wp2_with fail
  refine (copy_any A1 (n - 1) (c - 1) _ _ HR.out (by omega)).mono ?_
  rintro e w1 ⟨A1, n1, c1, rfl, ho1, hb1⟩
  go_wp2
  go_ret3
  exact ⟨Below.trans (by (repeat (first | exact Below.refl _ _ | assumption | (refine Below.setCell ?_ (by first | omega | (simp; done) | (simp; omega)) _) | (refine Below.alloc ?_ (by first | omega | (simp; done) | (simp; omega)) _) | (refine below_drewN ?_ _) | (refine Below.drew ?_)))) hb1, .inr ⟨_, _, _, _, _, hx.out, rfl, ho1⟩⟩


set_option maxHeartbeats 400000 in
theorem refBits_no_3 (b o n c m : Nat) (x0 xl : UInt8) (xs : List UInt8) (w : World) (h0 : 0 < n) (hm : m < n)
    (hc0 : w.cell? ⟨b, o, none⟩ = some (.int .u8 3)) (hcl : w.cell? ⟨b, o + m, none⟩ = some (.int .u8 (xl.toNat : Int)))
    (hn1 : ((n : Int) == 1) = false) (hw : IntKind.i64.wrap ((n : Int) - 1) = (m : Int)) (hml : (m : Int) < n) (hbt : ((xl.toNat : Int) % 8 != 0) = true) (hx : Hid (Der.bits xs = none)) :
    Calls Try.prog 75 #[.slice (some ⟨b, o, none⟩) n c] w (BitsPost xs w) := by
  have hne : ((n : Int) == 0) = false := by simp; omega
  go_enter Try.func75, Try.ntmps75
  go_wp2
  go_wp2
  go_ret3
  exact ⟨(by (repeat (first | exact Below.refl _ _ | assumption | (refine Below.setCell ?_ (by first | omega | (simp; done) | (simp; omega)) _) | (refine Below.alloc ?_ (by first | omega | (simp; done) | (simp; omega)) _) | (refine below_drewN ?_ _) | (refine Below.drew ?_)))), .inl ⟨hx.out, rfl⟩⟩

set_option maxHeartbeats 400000 in
theorem refBits_yes_3 (b o n c m : Nat) (x0 xl : UInt8) (r : List UInt8) (w : World) (h : Rd w w.heap.size (some ⟨b, o, none⟩) n c (x0 :: r)) (hn : n ≤ 1099511627776) (h0 : 0 < n) (hm : m < n)
    (hc0 : w.cell? ⟨b, o, none⟩ = some (.int .u8 3)) (hcl : w.cell? ⟨b, o + m, none⟩ = some (.int .u8 (xl.toNat : Int)))
    (hn1 : ((n : Int) == 1) = false) (hw : IntKind.i64.wrap ((n : Int) - 1) = (m : Int)) (hml : (m : Int) < n) (hbt : ((xl.toNat : Int) % 8 != 0) = false) (hx : Hid (Der.bits (x0 :: r) = some (r, 3))) :
    Calls Try.prog 75 #[.slice (some ⟨b, o, none⟩) n c] w (BitsPost (x0 :: r) w) := by
  have hne : ((n : Int) == 0) = false := by simp; omega
  obtain ⟨A1, hr1, _, hcut⟩ := run_cut_lo h 1 1 rfl (by omega)
  have HR := Lib.hid hr1
  clear hr1 h
  go_enter Try.func75, Try.ntmps75
  go_wp2_with fail
  refine (copy_any A1 (n - 1) (c - 1) _ _ HR.out (by omega)).mono ?_
  rintro e w1 ⟨A1, n1, c1, rfl, ho1, hb1⟩
  go_wp2
  go_ret3
  exact ⟨Below.trans (by (repeat (first | exact Below.refl _ _ | assumption | (refine Below.setCell ?_ (by first | omega | (simp; done) | (simp; omega)) _) | (refine Below.alloc ?_ (by first | omega | (simp; done) | (simp; omega)) _) | (refine below_drewN ?_ _) | (refine Below.drew ?_)))) hb1, .inr ⟨_, _, _, _, _, hx.out, rfl, ho1⟩⟩


set_option maxHeartbeats 400000 in
theorem refBits_no_4 (b o n c m : Nat) (x0 xl : UInt8) (xs : List UInt8) (w : World) (h0 : 0 < n) (hm : m < n)
    (hc0 : w.cell? ⟨b, o, none⟩ = some (.int .u8 4)) (hcl : w.cell? ⟨b, o + m, none⟩ = some (.int .u8 (xl.toNat : Int)))
    (hn1 : ((n : Int) == 1) = false) (hw : IntKind.i64.wrap ((n : Int) - 1) = (m : Int)) (hml : (m : Int) < n) (hbt : ((xl.toNat : Int) % 16 != 0) = true) (hx : Hid (Der.bits xs = none)) :
    Calls Try.prog 75 #[.slice (some ⟨b, o, none⟩) n c] w (BitsPost xs w) := by
  have hne : ((n : Int) == 0) = false := by simp; omega
  go_enter Try.func75, Try.ntmps75
  go_wp2
  go_wp2
  go_ret3
  exact ⟨(by (repeat (first | exact Below.refl _ _ | assumption | (refine Below.setCell ?_ (by first | omega | (simp; done) | (simp; omega)) _) | (refine Below.alloc ?_ (by first | omega | (simp; done) | (simp; omega)) _) | (refine below_drewN ?_ _) | (refine Below.drew ?_)))), .inl ⟨hx.out, rfl⟩⟩

set_option maxHeartbeats 400000 in
theorem refBits_yes_4 (b o n c m : Nat) (x0 xl : UInt8) (r : List UInt8) (w : World) (h : Rd w w.heap.size (some ⟨b, o, none⟩) n c (x0 :: r)) (hn : n ≤ 1099511627776) (h0 : 0 < n) (hm : m < n)
    (hc0 : w.cell? ⟨b, o, none⟩ = some (.int .u8 4)) (hcl : w.cell? ⟨b, o + m, none⟩ = some (.int .u8 (xl.toNat : Int)))
    (hn1 : ((n : Int) == 1) = false) (hw : IntKind.i64.wrap ((n : Int) - 1) = (m : Int)) (hml : (m : Int) < n) (hbt : ((xl.toNat : Int) % 16 != 0) = false) (hx : Hid (Der.bits (x0 :: r) = some (r, 4))) :
    Calls Try.prog 75 #[.slice (some ⟨b, o, none⟩) n c] w (BitsPost (x0 :: r) w) := by
  have hne : ((n : Int) == 0) = false := by simp; omega
  obtain ⟨A1, hr1, _, hcut⟩ := run_cut_lo h 1 1 rfl (by omega)
  have HR := Lib.hid hr1
  clear hr1 h
  go_enter Try.func75, Try.ntmps75
  go_wp2_with fail
  refine (copy_any A1 (n - 1) (c - 1) _ _ HR.out (by omega)).mono ?_
  rintro e w1 ⟨A1, n1, c1, rfl, ho1, hb1⟩
  go_wp2
  go_ret3
  exact ⟨Below.trans (by (repeat (first | exact Below.refl _ _ | assumption | (refine Below.setCell ?_ (by first | omega | (simp; done) | (simp; omega)) _) | (refine Below.alloc ?_ (by first | omega | (simp; done) | (simp; omega)) _) | (refine below_drewN ?_ _) | (refine Below.drew ?_)))) hb1, .inr ⟨_, _, _, _, _, hx.out, rfl, ho1⟩⟩


set_option maxHeartbeats 400000 in
theorem refBits_no_5 (b o n c m : Nat) (x0 xl : UInt8) (xs : List UInt8) (w : World) (h0 : 0 < n) (hm : m < n)
    (hc0 : w.cell? ⟨b, o, none⟩ = some (.int .u8 5)) (hcl : w.cell? ⟨b, o + m, none⟩ = some (.int .u8 (xl.toNat : Int)))
    (hn1 : ((n : Int) == 1) = false) (hw : IntKind.i64.wrap ((n : Int) - 1) = (m : Int)) (hml : (m : Int) < n) (hbt : ((xl.toNat : Int) % 32 != 0) = true) (hx : Hid (Der.bits xs = none)) :
    Calls Try.prog 75 #[.slice (some ⟨b, o, none⟩) n c] w (BitsPost xs w) := by
  have hne : ((n : Int) == 0) = false := by simp; omega
  go_enter Try.func75, Try.ntmps75
  go_wp2
  go_wp2
  go_ret3
  exact ⟨(by (repeat (first | exact Below.refl _ _ | assumption | (refine Below.setCell ?_ (by first | omega | (simp; done) | (simp; omega)) _) | (refine Below.alloc ?_ (by first | omega | (simp; done) | (simp; omega)) _) | (refine below_drewN ?_ _) | (refine Below.drew ?_)))), .inl ⟨hx.out, rfl⟩⟩

set_option maxHeartbeats 400000 in
theorem refBits_yes_5 (b o n c m : Nat) (x0 xl : UInt8) (r : List UInt8) (w : World) (h : Rd w w.heap.size (some ⟨b, o, none⟩) n c (x0 :: r)) (hn : n ≤ 1099511627776) (h0 : 0 < n) (hm : m < n)
    (hc0 : w.cell? ⟨b, o, none⟩ = some (.int .u8 5)) (hcl : w.cell? ⟨b, o + m, none⟩ = some (.int .u8 (xl.toNat : Int)))
    (hn1 : ((n : Int) == 1) = false) (hw : IntKind.i64.wrap ((n : Int) - 1) = (m : Int)) (hml : (m : Int) < n) (hbt : ((xl.toNat : Int) % 32 != 0) = false) (hx : Hid (Der.bits (x0 :: r) = some (r, 5))) :
    Calls Try.prog 75 #[.slice (some ⟨b, o, none⟩) n c] w (BitsPost (x0 :: r) w) := by
  have hne : ((n : Int) == 0) = false := by simp; omega
  obtain ⟨A1, hr1, _, hcut⟩ := run_cut_lo h 1 1 rfl (by omega)
  have HR := Lib.hid hr1
  clear hr1 h
  go_enter Try.func75, Try.ntmps75
  go_wp2_with fail
  refine (copy_any A1 (n - 1) (c - 1) _ _ HR.out (by omega)).mono ?_
  rintro e w1 ⟨A1, n1, c1, rfl, ho1, hb1⟩
  go_wp2
  go_ret3
  exact ⟨Below.trans (by (repeat (first | exact Below.refl _ _ | assumption | (refine Below.setCell ?_ (by first | omega | (simp; done) | (simp; omega)) _) | (refine Below.alloc ?_ (by first | omega | (simp; done) | (simp; omega)) _) | (refine below_drewN ?_ _) | (refine Below.drew ?_)))) hb1, .inr ⟨_, _, _, _, _, hx.out, rfl, ho1⟩⟩


set_option maxHeartbeats 400000 in
theorem refBits_no_6 (b o n c m : Nat) (x0 xl : UInt8) (xs : List UInt8) (w : World) (h0 : 0 < n) (hm : m < n)
    (hc0 : w.cell? ⟨b, o, none⟩ = some (.int .u8 6)) (hcl : w.cell? ⟨b, o + m, none⟩ = some (.int .u8 (xl.toNat : Int)))
    (hn1 : ((n : Int) == 1) = false) (hw : IntKind.i64.wrap ((n : Int) - 1) = (m : Int)) (hml : (m : Int) < n) (hbt : ((xl.toNat : Int) % 64 != 0) = true) (hx : Hid (Der.bits xs = none)) :
    Calls Try.prog 75 #[.slice (some ⟨b, o, none⟩) n c] w (BitsPost xs w) := by
  have hne : ((n : Int) == 0) = false := by simp; omega
  go_enter Try.func75, Try.ntmps75
  go_wp2
  go_wp2
  go_ret3
  exact ⟨(by (repeat (first | exact Below.refl _ _ | assumption | (refine Below.setCell ?_ (by first | omega | (simp; done) | (simp; omega)) _) | (refine Below.alloc ?_ (by first | omega | (simp; done) | (simp; omega)) _) | (refine below_drewN ?_ _) | (refine Below.drew ?_)))), .inl ⟨hx.out, rfl⟩⟩

set_option maxHeartbeats 400000 in
theorem refBits_yes_6 (b o n c m : Nat) (x0 xl : UInt8) (r : List UInt8) (w : World) (h : Rd w w.heap.size (some ⟨b, o, none⟩) n c (x0 :: r)) (hn : n ≤ 1099511627776) (h0 : 0 < n) (hm : m < n)
    (hc0 : w.cell? ⟨b, o, none⟩ = some (.int .u8 6)) (hcl : w.cell? ⟨b, o + m, none⟩ = some (.int .u8 (xl.toNat : Int)))
    (hn1 : ((n : Int) == 1) = false) (hw : IntKind.i64.wrap ((n : Int) - 1) = (m : Int)) (hml : (m : Int) < n) (hbt : ((xl.toNat : Int) % 64 != 0) = false) (hx : Hid (Der.bits (x0 :: r) = some (r, 6))) :
    Calls Try.prog 75 #[.slice (some ⟨b, o, none⟩) n c] w (BitsPost (x0 :: r) w) := by
  have hne : ((n : Int) == 0) = false := by simp; omega
  obtain ⟨A1, hr1, _, hcut⟩ := run_cut_lo h 1 1 rfl (by omega)
  have HR := Lib.hid hr1
  clear hr1 h
  go_enter Try.func75, Try.ntmps75
  go_wp2_with fail
  refine (copy_any A1 (n - 1) (c - 1) _ _ HR.out (by omega)).mono ?_
  rintro e w1 ⟨A1, n1, c1, rfl, ho1, hb1⟩
  go_wp2
  go_ret3
  exact ⟨Below.trans (by (repeat (first | exact Below.refl _ _ | assumption | (refine Below.setCell ?_ (by first | omega | (simp; done) | (simp; omega)) _) | (refine Below.alloc ?_ (by first | omega | (simp; done) | (simp; omega)) _) | (refine below_drewN ?_ _) | (refine Below.drew ?_)))) hb1, .inr ⟨_, _, _, _, _, hx.out, rfl, ho1⟩⟩


set_option maxHeartbeats 400000 in
theorem refBits_no_7 (b o n c m : Nat) (x0 xl : UInt8) (xs : List UInt8) (w : World) (h0 : 0 < n) (hm : m < n)
    (hc0 : w.cell? ⟨b, o, none⟩ = some (.int .u8 7)) (hcl : w.cell? ⟨b, o + m, none⟩ = some (.int .u8 (xl.toNat : Int)))
    (hn1 : ((n : Int) == 1) = false) (hw : IntKind.i64.wrap ((n : Int) - 1) = (m : Int)) (hml : (m : Int) < n) (hbt : ((xl.toNat : Int) % 128 != 0) = true) (hx : Hid (Der.bits xs = none)) :
    Calls Try.prog 75 #[.slice (some ⟨b, o, none⟩) n c] w (BitsPost xs w) := by
  have hne : ((n : Int) == 0) = false := by simp; omega
  go_enter Try.func75, Try.ntmps75
  go_wp2
  go_wp2
  go_ret3
  exact ⟨(by (repeat (first | exact Below.refl _ _ | assumption | (refine Below.setCell ?_ (by first | omega | (simp; done) | (simp; omega)) _) | (refine Below.alloc ?_ (by first | omega | (simp; done) | (simp; omega)) _) | (refine below_drewN ?_ _) | (refine Below.drew ?_)))), .inl ⟨hx.out, rfl⟩⟩

set_option maxHeartbeats 400000 in
theorem refBits_yes_7 (b o n c m : Nat) (x0 xl : UInt8) (r : List UInt8) (w : World) (h : Rd w w.heap.size (some ⟨b, o, none⟩) n c (x0 :: r)) (hn : n ≤ 1099511627776) (h0 : 0 < n) (hm : m < n)
    (hc0 : w.cell? ⟨b, o, none⟩ = some (.int .u8 7)) (hcl : w.cell? ⟨b, o + m, none⟩ = some (.int .u8 (xl.toNat : Int)))
    (hn1 : ((n : Int) == 1) = false) (hw : IntKind.i64.wrap ((n : Int) - 1) = (m : Int)) (hml : (m : Int) < n) (hbt : ((xl.toNat : Int) % 128 != 0) = false) (hx : Hid (Der.bits (x0 :: r) = some (r, 7))) :
    Calls Try.prog 75 #[.slice (some ⟨b, o, none⟩) n c] w (BitsPost (x0 :: r) w) := by
  have hne : ((n : Int) == 0) = false := by simp; omega
  obtain ⟨A1, hr1, _, hcut⟩ := run_cut_lo h 1 1 rfl (by omega)
  have HR := Lib.hid hr1
  clear hr1 h
  go_enter Try.func75, Try.ntmps75
  go_wp2_with fail
  refine (copy_any A1 (n - 1) (c - 1) _ _ HR.out (by omega)).mono ?_
  rintro e w1 ⟨A1, n1, c1, rfl, ho1, hb1⟩
  go_wp2
  go_ret3
  exact ⟨Below.trans (by (repeat (first | exact Below.refl _ _ | assumption | (refine Below.setCell ?_ (by first | omega | (simp; done) | (simp; omega)) _) | (refine Below.alloc ?_ (by first | omega | (simp; done) | (simp; omega)) _) | (refine below_drewN ?_ _) | (refine Below.drew ?_)))) hb1, .inr ⟨_, _, _, _, _, hx.out, rfl, ho1⟩⟩


theorem refBits_any (A : Option Addr) (n c : Nat) (xs : List UInt8) (w : World) (h : Rd w w.heap.size A n c xs) (hn : n ≤ 1099511627776) :
    Calls Try.prog 75 #[.slice A n c] w (BitsPost xs w) := by
  have hl := h.len
  rcases xs with _ | ⟨x0, r⟩
  · obtain rfl : n = 0 := by simpa using hl.symm
    exact refBits_nil A c [] w (Lib.hid rfl)
  have h0 : 0 < n := by simp at hl; omega
  obtain ⟨b, o, rfl, hb, hcell⟩ := h.at_ h0
  have hc0 := hcell 0 x0 rfl
  rw [Nat.add_zero] at hc0
  by_cases h8 : 7 < x0.toNat
  · exact refBits_big b o n c x0 _ w h0 hc0 (by omega) (Lib.hid (by simp [Der.bits, h8]))
  by_cases h1 : 0 < x0.toNat ∧ r = []
  · obtain ⟨h1, rfl⟩ := h1
    obtain rfl : n = 1 := by simpa using hl.symm
    exact refBits_alone b o c x0 _ w hc0 (by omega) (by omega) (Lib.hid (by simp [Der.bits, h1]))
  obtain ⟨m, rfl⟩ : ∃ m, n = m + 1 := ⟨n - 1, by omega⟩
  obtain ⟨xl, hxl⟩ : ∃ xl, (x0 :: r).getLastD 0 = xl := ⟨_, rfl⟩
  have hcl := hcell m xl (by rw [last_get (by simpa using hl), hxl])
  have hw : IntKind.i64.wrap (((m + 1 : Nat) : Int) - 1) = (m : Int) := by rw [IntKind.wrap_i64]; omega
  have hn1 : 0 < x0.toNat → ((((m + 1 : Nat) : Int)) == 1) = false := by
    intro h0
    have : r ≠ [] := fun e => h1 ⟨h0, e⟩
    have := List.length_pos_iff.2 this
    simp at hl
    simp; omega
  have hyes : xl.toNat % 2 ^ x0.toNat = 0 → Der.bits (x0 :: r) = some (r, x0.toNat) := by
    intro e
    rw [Der.bits, if_neg (by rintro (h | h); exact h8 h; exact h1 h), hxl, if_pos e]
  have hno : xl.toNat % 2 ^ x0.toNat ≠ 0 → Der.bits (x0 :: r) = none := by
    intro e
    rw [Der.bits, if_neg (by rintro (h | h); exact h8 h; exact h1 h), hxl, if_neg e]
  have hml : (m : Int) < (m + 1 : Nat) := by omega
  have hk : x0.toNat = 0 ∨ x0.toNat = 1 ∨ x0.toNat = 2 ∨ x0.toNat = 3 ∨ x0.toNat = 4 ∨ x0.toNat = 5 ∨ x0.toNat = 6 ∨ x0.toNat = 7 := by omega
  rcases hk with hk | hk | hk | hk | hk | hk | hk | hk
  · rw [hk] at hc0 hyes hno hn1
    by_cases hz : xl.toNat % 2 ^ 0 = 0
    · exact refBits_yes_0 b o (m + 1) c m x0 xl r w h hn h0 (by omega) hc0 hcl  hw hml (by simp) (Lib.hid (hyes hz))
    · exact absurd (Nat.mod_one _) hz
  · rw [hk] at hc0 hyes hno hn1
    by_cases hz : xl.toNat % 2 ^ 1 = 0
    · exact refBits_yes_1 b o (m + 1) c m x0 xl r w h hn h0 (by omega) hc0 hcl (hn1 (by omega)) hw hml (by have e : ((2 : Nat) : Int) = 2 ^ 1 := rfl; simp at hz ⊢; omega) (Lib.hid (hyes hz))
    · exact refBits_no_1 b o (m + 1) c m x0 xl _ w h0 (by omega) hc0 hcl (hn1 (by omega)) hw hml (by have e : ((2 : Nat) : Int) = 2 ^ 1 := rfl; simp at hz ⊢; omega) (Lib.hid (hno hz))
  · rw [hk] at hc0 hyes hno hn1
    by_cases hz : xl.toNat % 2 ^ 2 = 0
    · exact refBits_yes_2 b o (m + 1) c m x0 xl r w h hn h0 (by omega) hc0 hcl (hn1 (by omega)) hw hml (by have e : ((4 : Nat) : Int) = 2 ^ 2 := rfl; simp at hz ⊢; omega) (Lib.hid (hyes hz))
    · exact refBits_no_2 b o (m + 1) c m x0 xl _ w h0 (by omega) hc0 hcl (hn1 (by omega)) hw hml (by have e : ((4 : Nat) : Int) = 2 ^ 2 := rfl; simp at hz ⊢; omega) (Lib.hid (hno hz))
  · rw [hk] at hc0 hyes hno hn1
    by_cases hz : xl.toNat % 2 ^ 3 = 0
    · exact refBits_yes_3 b o (m + 1) c m x0 xl r w h hn h0 (by omega) hc0 hcl (hn1 (by omega)) hw hml (by have e : ((8 : Nat) : Int) = 2 ^ 3 := rfl; simp at hz ⊢; omega) (Lib.hid (hyes hz))
    · exact refBits_no_3 b o (m + 1) c m x0 xl _ w h0 (by omega) hc0 hcl (hn1 (by omega)) hw hml (by have e : ((8 : Nat) : Int) = 2 ^ 3 := rfl; simp at hz ⊢; omega) (Lib.hid (hno hz))
  · rw [hk] at hc0 hyes hno hn1
    by_cases hz : xl.toNat % 2 ^ 4 = 0
    · exact refBits_yes_4 b o (m + 1) c m x0 xl r w h hn h0 (by omega) hc0 hcl (hn1 (by omega)) hw hml (by have e : ((16 : Nat) : Int) = 2 ^ 4 := rfl; simp at hz ⊢; omega) (Lib.hid (hyes hz))
    · exact refBits_no_4 b o (m + 1) c m x0 xl _ w h0 (by omega) hc0 hcl (hn1 (by omega)) hw hml (by have e : ((16 : Nat) : Int) = 2 ^ 4 := rfl; simp at hz ⊢; omega) (Lib.hid (hno hz))
  · rw [hk] at hc0 hyes hno hn1
    by_cases hz : xl.toNat % 2 ^ 5 = 0
    · exact refBits_yes_5 b o (m + 1) c m x0 xl r w h hn h0 (by omega) hc0 hcl (hn1 (by omega)) hw hml (by have e : ((32 : Nat) : Int) = 2 ^ 5 := rfl; simp at hz ⊢; omega) (Lib.hid (hyes hz))
    · exact refBits_no_5 b o (m + 1) c m x0 xl _ w h0 (by omega) hc0 hcl (hn1 (by omega)) hw hml (by have e : ((32 : Nat) : Int) = 2 ^ 5 := rfl; simp at hz ⊢; omega) (Lib.hid (hno hz))
  · rw [hk] at hc0 hyes hno hn1
    by_cases hz : xl.toNat % 2 ^ 6 = 0
    · exact refBits_yes_6 b o (m + 1) c m x0 xl r w h hn h0 (by omega) hc0 hcl (hn1 (by omega)) hw hml (by have e : ((64 : Nat) : Int) = 2 ^ 6 := rfl; simp at hz ⊢; omega) (Lib.hid (hyes hz))
    · exact refBits_no_6 b o (m + 1) c m x0 xl _ w h0 (by omega) hc0 hcl (hn1 (by omega)) hw hml (by have e : ((64 : Nat) : Int) = 2 ^ 6 := rfl; simp at hz ⊢; omega) (Lib.hid (hno hz))
  · rw [hk] at hc0 hyes hno hn1
    by_cases hz : xl.toNat % 2 ^ 7 = 0
    · exact refBits_yes_7 b o (m + 1) c m x0 xl r w h hn h0 (by omega) hc0 hcl (hn1 (by omega)) hw hml (by have e : ((128 : Nat) : Int) = 2 ^ 7 := rfl; simp at hz ⊢; omega) (Lib.hid (hyes hz))
    · exact refBits_no_7 b o (m + 1) c m x0 xl _ w h0 (by omega) hc0 hcl (hn1 (by omega)) hw hml (by have e : ((128 : Nat) : Int) = 2 ^ 7 := rfl; simp at hz ⊢; omega) (Lib.hid (hno hz))
end Go.Proofs.Ytmnekhliblkibaa
