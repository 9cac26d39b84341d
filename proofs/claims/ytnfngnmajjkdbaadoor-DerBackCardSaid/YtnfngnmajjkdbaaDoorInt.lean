/- The contract of der.Int. -/
import Derived.Test.YtnfngnmajjkdbaaDoorBase
import Derived.Test.YtnfngnmajjkdbaaDoorLit
namespace Go.Proofs.YtnfngnmajjkdbaaDoor
open Go.RowKit
set_option maxRecDepth 100000

/-- The bytes of a number's body. -/
def Der.int : List UInt8 → Option (List UInt8)
  | [] => none
  | b0 :: r => if 128 ≤ b0.toNat then none else if b0.toNat = 0 then
      match r with
      | [] => some []
      | b1 :: _ => if b1.toNat < 128 then none else some r
    else some (b0 :: r)

def IntPost (xs : List UInt8) (w : World) (e : Ending) (w' : World) : Prop :=
  Below w.heap.size w w' ∧
  ((Der.int xs = none ∧ e = .returned (.tuple #[.slice none 0 0, .bool false])) ∨
   ∃ ys A n c, Der.int xs = some ys ∧ e = .returned (.tuple #[.slice A n c, .bool true]) ∧ OwnB w' w.heap.size w'.heap.size (.slice A n c) ys)

theorem int_whole (b o n c : Nat) (x0 : UInt8) (xs : List UInt8) (w : World) (h : Rd w w.heap.size (some ⟨b, o, none⟩) n c xs) (hn : n ≤ 1099511627776) (h0 : 0 < n)
    (hc0 : w.cell? ⟨b, o, none⟩ = some (.int .u8 (x0.toNat : Int))) (h8 : ¬ (128 : Int) ≤ x0.toNat) (hz : ((x0.toNat : Int) == 0) = false) (hx : Hid (Der.int xs = some xs)) :
    Calls Tryd.prog 10 #[.slice (some ⟨b, o, none⟩) n c] w (IntPost xs w) := by
  have hne : ((n : Int) == 0) = false := by simp; omega
  by_cases h1 : 1 < n
  · have h1' : (1 : Int) < n := by omega
    go_enter Tryd.func10, Tryd.ntmps10
    go_wp2_with fail
    refine (clone_any _ n c xs w h hn).mono ?_
    rintro e w1 ⟨A1, n1, c1, rfl, ho1, hb1⟩
    go_wp2
    go_ret2
    exact ⟨hb1, .inr ⟨_, _, _, _, hx.out, rfl, ho1⟩⟩
  · have h1' : ¬ (1 : Int) < n := by omega
    go_enter Tryd.func10, Tryd.ntmps10
    go_wp2_with fail
    refine (clone_any _ n c xs w h hn).mono ?_
    rintro e w1 ⟨A1, n1, c1, rfl, ho1, hb1⟩
    go_wp2
    go_ret2
    exact ⟨hb1, .inr ⟨_, _, _, _, hx.out, rfl, ho1⟩⟩

theorem int_big (b o n c : Nat) (x0 : UInt8) (xs : List UInt8) (w : World) (h0 : 0 < n)
    (hc0 : w.cell? ⟨b, o, none⟩ = some (.int .u8 (x0.toNat : Int))) (h8 : (128 : Int) ≤ x0.toNat) (hx : Hid (Der.int xs = none)) :
    Calls Tryd.prog 10 #[.slice (some ⟨b, o, none⟩) n c] w (IntPost xs w) := by
  have hne : ((n : Int) == 0) = false := by simp; omega
  go_enter Tryd.func10, Tryd.ntmps10
  go_wp2
  go_ret2
  exact ⟨Below.refl _ _, .inl ⟨hx.out, rfl⟩⟩

theorem int_nil (A : Option Addr) (c : Nat) (xs : List UInt8) (w : World) (hx : Hid (Der.int xs = none)) :
    Calls Tryd.prog 10 #[.slice A 0 c] w (IntPost xs w) := by
  go_enter Tryd.func10, Tryd.ntmps10
  go_wp2
  go_ret2
  exact ⟨Below.refl _ _, .inl ⟨hx.out, rfl⟩⟩

theorem int_needless (b o n c : Nat) (x1 : UInt8) (xs : List UInt8) (w : World) (h0 : 1 < n)
    (hc0 : w.cell? ⟨b, o, none⟩ = some (.int .u8 0)) (hc1 : w.cell? ⟨b, o + 1, none⟩ = some (.int .u8 (x1.toNat : Int))) (h8 : (x1.toNat : Int) < 128) (hx : Hid (Der.int xs = none)) :
    Calls Tryd.prog 10 #[.slice (some ⟨b, o, none⟩) n c] w (IntPost xs w) := by
  have hne : ((n : Int) == 0) = false := by simp; omega
  have h1' : (1 : Int) < n := by omega
  have h00 : 0 < n := by omega
  go_enter Tryd.func10, Tryd.ntmps10
  go_wp2
  go_ret2
  exact ⟨Below.refl _ _, .inl ⟨hx.out, rfl⟩⟩

theorem int_cut (b o n c : Nat) (xs : List UInt8) (w : World) (h : Rd w w.heap.size (some ⟨b, o, none⟩) n c xs) (hn : n ≤ 1099511627776) (h0 : 0 < n)
    (hc0 : w.cell? ⟨b, o, none⟩ = some (.int .u8 0)) (h8 : 1 < n → ∃ x1 : UInt8, w.cell? ⟨b, o + 1, none⟩ = some (.int .u8 (x1.toNat : Int)) ∧ ¬ (x1.toNat : Int) < 128) (hx : Hid (Der.int xs = some (xs.drop 1))) :
    Calls Tryd.prog 10 #[.slice (some ⟨b, o, none⟩) n c] w (IntPost xs w) := by
  have hne : ((n : Int) == 0) = false := by simp; omega
  obtain ⟨A1, hr1, _, hcut⟩ := run_cut_lo h 1 1 rfl (by omega)
  by_cases h1 : 1 < n
  · obtain ⟨x1, hc1, h9⟩ := h8 h1
    clear h8
    have h1' : (1 : Int) < n := by omega
    go_enter Tryd.func10, Tryd.ntmps10
    go_wp2_with fail
    refine (clone_any A1 (n - 1) (c - 1) _ w hr1 (by omega)).mono ?_
    rintro e w1 ⟨A1, n1, c1, rfl, ho1, hb1⟩
    go_wp2
    go_ret2
    exact ⟨hb1, .inr ⟨_, _, _, _, hx.out, rfl, ho1⟩⟩
  · clear h8
    have h1' : ¬ (1 : Int) < n := by omega
    go_enter Tryd.func10, Tryd.ntmps10
    go_wp2_with fail
    refine (clone_any A1 (n - 1) (c - 1) _ w hr1 (by omega)).mono ?_
    rintro e w1 ⟨A1, n1, c1, rfl, ho1, hb1⟩
    go_wp2
    go_ret2
    exact ⟨hb1, .inr ⟨_, _, _, _, hx.out, rfl, ho1⟩⟩

theorem int_any (A : Option Addr) (n c : Nat) (xs : List UInt8) (w : World) (h : Rd w w.heap.size A n c xs) (hn : n ≤ 1099511627776) :
    Calls Tryd.prog 10 #[.slice A n c] w (IntPost xs w) := by
  have hl := h.len
  rcases xs with _ | ⟨x0, r⟩
  · obtain rfl : n = 0 := by simpa using hl.symm
    exact int_nil A c [] w (Lib.hid rfl)
  have h0 : 0 < n := by simp at hl; omega
  obtain ⟨b, o, rfl, hb, hcell⟩ := h.at_ h0
  have hc0 := hcell 0 x0 rfl
  rw [Nat.add_zero] at hc0
  by_cases h8 : 128 ≤ x0.toNat
  · exact int_big b o n c x0 _ w h0 hc0 (by omega) (Lib.hid (by simp [Der.int, h8]))
  by_cases hz : x0.toNat = 0
  · rw [hz] at hc0
    rcases r with _ | ⟨x1, r⟩
    · exact int_cut b o n c _ w h hn h0 hc0 (fun h1 => by simp at hl; omega) (Lib.hid (by simp [Der.int, hz]))
    · have hc1 := hcell 1 x1 rfl
      by_cases h9 : x1.toNat < 128
      · exact int_needless b o n c x1 _ w (by simp at hl; omega) hc0 hc1 (by omega) (Lib.hid (by simp [Der.int, hz, h9]))
      · exact int_cut b o n c _ w h hn h0 hc0 (fun _ => ⟨x1, hc1, by omega⟩) (Lib.hid (by simp [Der.int, hz, h9]))
  · exact int_whole b o n c x0 _ w h hn h0 hc0 (by omega) (by simp; omega) (Lib.hid (by simp [Der.int, h8, hz]))
end Go.Proofs.YtnfngnmajjkdbaaDoor
