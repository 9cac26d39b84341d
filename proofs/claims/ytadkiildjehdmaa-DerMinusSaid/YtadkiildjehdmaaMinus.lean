/- The walk of the law DerMinus. -/
import Derived.Test.YtadkiildjehdmaaWorks
import Derived.Test.YtadkiildjehdmaaInt
import Derived.Test.YtadkiildjehdmaaDer5
namespace Go.Proofs.Ytadkiildjehdmaa
open Go.RowKit
set_option maxRecDepth 1000000

def LawPost (w : World) (e : Ending) (w' : World) : Prop := e = .returned (.bool true) ∧ Below w.heap.size w w'

theorem minus_large (A : Option Addr) (n c : Nat) (w : World) (hn : (8192 : Int) < n) :
    Calls Try.prog 11 #[.slice A n c] w (LawPost w) := by
  go_enter Try.func11, Try.ntmps11
  go_wp2_with fail
  refine (large_any A n c _).mono ?_
  rintro e w1 ⟨he, rfl⟩
  rw [decide_eq_true hn] at he
  subst he
  go_wp2_with fail
  refine (works_any _).mono ?_
  rintro e w1 ⟨rfl, hb1⟩
  go_wp2
  go_ret
  exact ⟨rfl, hb1⟩

theorem int_some {x0 : UInt8} {r ys : List UInt8} (h : Der.int (x0 :: r) = some ys) : x0.toNat < 128 ∧ ys.length ≤ r.length + 1 := by
  by_cases h8 : 128 ≤ x0.toNat
  · simp [Der.int, h8] at h
  by_cases hz : x0.toNat = 0
  · rcases r with _ | ⟨b1, r⟩
    · simp [Der.int, hz] at h
      subst h; simp; omega
    · by_cases h9 : b1.toNat < 128
      · simp [Der.int, hz, h9] at h
      · simp [Der.int, hz, h9] at h
        subst h; simp; omega
  · simp [Der.int, h8, hz] at h
    subst h; simp; omega

set_option maxHeartbeats 400000 in
theorem minus_some (b o n c : Nat) (x0 : UInt8) (r ys : List UInt8) (w : World) (h : Rd w w.heap.size (some ⟨b, o, none⟩) n c (x0 :: r)) (hn : ¬ (8192 : Int) < n)
    (hc0 : w.cell? ⟨b, o, none⟩ = some (.int .u8 (x0.toNat : Int))) (hb : b < w.heap.size) (hi : Hid (Der.int (x0 :: r) = some ys)) :
    Calls Try.prog 11 #[.slice (some ⟨b, o, none⟩) n c] w (LawPost w) := by
  have hl := h.len
  have h2 := int_some hi.out
  have h8 : (x0.toNat : Int) < 128 := by omega
  have h0 : 0 < n := by simp at hl; omega
  have h0' : (0 : Int) < n := by omega
  have hbig : ys.length ≤ n := by simp at hl; omega
  clear hl h2
  go_enter Try.func11, Try.ntmps11
  go_wp2_with fail
  refine (large_any _ n c _).mono ?_
  rintro e w1 ⟨he, rfl⟩
  rw [decide_eq_false (show ¬ (8192 : Int) < n by omega)] at he
  subst he
  go_wp2_with fail
  refine (int_any _ n c _ _ h (by omega)).mono ?_
  rintro e w2 ⟨hb2, ⟨hno, _⟩ | ⟨zs, A1, n1, c1, hy, rfl, ho⟩⟩
  · rw [hi.out] at hno; cases hno
  rw [hi.out] at hy
  injection hy with hy
  subst hy
  have hn1 := ho.len
  have hle : (n1 : Int) ≤ n := by omega
  have hc1 : w2.cell? ⟨b, o, none⟩ = some (.int .u8 (x0.toNat : Int)) := (hb2.cell (p := ⟨b, o, none⟩) hb).trans hc0
  clear ho hn1 hbig hc0 h
  go_wp2_with fail
  refine (works_any _).mono ?_
  rintro e w3 ⟨rfl, hb3⟩
  go_wp2
  go_ret
  exact ⟨rfl, hb2.trans (hb3.mono hb2.size)⟩

theorem minus_nil (A : Option Addr) (c : Nat) (w : World) (h : Rd w w.heap.size A 0 c []) :
    Calls Try.prog 11 #[.slice A 0 c] w (LawPost w) := by
  go_enter Try.func11, Try.ntmps11
  go_wp2_with fail
  refine (large_any _ 0 c _).mono ?_
  rintro e w1 ⟨he, rfl⟩
  rw [decide_eq_false (by omega)] at he
  subst he
  go_wp2_with fail
  refine (int_any _ 0 c _ _ h (by omega)).mono ?_
  rintro e w2 ⟨hb2, ⟨hno, rfl⟩ | ⟨zs, A1, n1, c1, hy, rfl, ho⟩⟩
  · clear hno h
    go_wp2_with fail
    refine (works_any _).mono ?_
    rintro e w3 ⟨rfl, hb3⟩
    go_wp2
    go_ret
    exact ⟨rfl, hb2.trans (hb3.mono hb2.size)⟩
  · cases hy

set_option maxHeartbeats 400000 in
theorem minus_none (b o n c : Nat) (x0 : UInt8) (r : List UInt8) (w : World) (h : Rd w w.heap.size (some ⟨b, o, none⟩) n c (x0 :: r)) (hn : ¬ (8192 : Int) < n)
    (hc0 : w.cell? ⟨b, o, none⟩ = some (.int .u8 (x0.toNat : Int))) (hb : b < w.heap.size) (hi : Hid (Der.int (x0 :: r) = none)) (h8 : (128 : Int) ≤ x0.toNat) :
    Calls Try.prog 11 #[.slice (some ⟨b, o, none⟩) n c] w (LawPost w) := by
  have hl := h.len
  have h0 : 0 < n := by simp at hl; omega
  have hne : ((n : Int) == 0) = false := by simp; omega
  have hz : ((x0.toNat : Int) == 0) = false := by simp; omega
  clear hl
  by_cases h1 : (1 : Int) < n
  · go_enter Try.func11, Try.ntmps11
    go_wp2_with fail
    refine (large_any _ n c _).mono ?_
    rintro e w1 ⟨he, rfl⟩
    rw [decide_eq_false (show ¬ (8192 : Int) < n by omega)] at he
    subst he
    go_wp2_with fail
    refine (int_any _ n c _ _ h (by omega)).mono ?_
    rintro e w2 ⟨hb2, ⟨hno, rfl⟩ | ⟨zs, A1, n1, c1, hy, rfl, ho⟩⟩
    · have hc1 : w2.cell? ⟨b, o, none⟩ = some (.int .u8 (x0.toNat : Int)) := (hb2.cell (p := ⟨b, o, none⟩) hb).trans hc0
      clear hno h hc0
      go_wp2_with fail
      refine (works_any _).mono ?_
      rintro e w3 ⟨rfl, hb3⟩
      go_wp2
      go_ret
      exact ⟨rfl, hb2.trans (hb3.mono hb2.size)⟩
    · rw [hi.out] at hy; cases hy
  · go_enter Try.func11, Try.ntmps11
    go_wp2_with fail
    refine (large_any _ n c _).mono ?_
    rintro e w1 ⟨he, rfl⟩
    rw [decide_eq_false (show ¬ (8192 : Int) < n by omega)] at he
    subst he
    go_wp2_with fail
    refine (int_any _ n c _ _ h (by omega)).mono ?_
    rintro e w2 ⟨hb2, ⟨hno, rfl⟩ | ⟨zs, A1, n1, c1, hy, rfl, ho⟩⟩
    · have hc1 : w2.cell? ⟨b, o, none⟩ = some (.int .u8 (x0.toNat : Int)) := (hb2.cell (p := ⟨b, o, none⟩) hb).trans hc0
      clear hno h hc0
      go_wp2_with fail
      refine (works_any _).mono ?_
      rintro e w3 ⟨rfl, hb3⟩
      go_wp2
      go_ret
      exact ⟨rfl, hb2.trans (hb3.mono hb2.size)⟩
    · rw [hi.out] at hy; cases hy

set_option maxHeartbeats 400000 in
theorem minus_needless (b o n c : Nat) (x0 x1 : UInt8) (r : List UInt8) (w : World) (h : Rd w w.heap.size (some ⟨b, o, none⟩) n c (x0 :: x1 :: r)) (hn : ¬ (8192 : Int) < n)
    (hc0 : w.cell? ⟨b, o, none⟩ = some (.int .u8 0)) (hd0 : w.cell? ⟨b, o + 1, none⟩ = some (.int .u8 (x1.toNat : Int))) (hb : b < w.heap.size) (hi : Hid (Der.int (x0 :: x1 :: r) = none)) (h8 : (x1.toNat : Int) < 128) :
    Calls Try.prog 11 #[.slice (some ⟨b, o, none⟩) n c] w (LawPost w) := by
  have hl := h.len
  have h0 : 0 < n := by simp at hl; omega
  have h01 : 1 < n := by simp at hl; omega
  have hne : ((n : Int) == 0) = false := by simp; omega
  have h1 : (1 : Int) < n := by omega
  clear hl
  go_enter Try.func11, Try.ntmps11
  go_wp2_with fail
  refine (large_any _ n c _).mono ?_
  rintro e w1 ⟨he, rfl⟩
  rw [decide_eq_false (show ¬ (8192 : Int) < n by omega)] at he
  subst he
  go_wp2_with fail
  refine (int_any _ n c _ _ h (by omega)).mono ?_
  rintro e w2 ⟨hb2, ⟨hno, rfl⟩ | ⟨zs, A1, n1, c1, hy, rfl, ho⟩⟩
  · have hc1 : w2.cell? ⟨b, o, none⟩ = some (.int .u8 0) := (hb2.cell (p := ⟨b, o, none⟩) hb).trans hc0
    have hd1 : w2.cell? ⟨b, o + 1, none⟩ = some (.int .u8 (x1.toNat : Int)) := (hb2.cell (p := ⟨b, o + 1, none⟩) hb).trans hd0
    clear hno h hc0 hd0
    go_wp2_with fail
    refine (works_any _).mono ?_
    rintro e w3 ⟨rfl, hb3⟩
    go_wp2
    go_ret
    exact ⟨rfl, hb2.trans (hb3.mono hb2.size)⟩
  · rw [hi.out] at hy; cases hy

theorem derMinus_walk (w : World) (A : Option Addr) (n c : Nat) (xs : List UInt8) (h : Rd w w.heap.size A n c xs) :
    Calls Try.prog 11 #[.slice A n c] w fun e w' => e = .returned (.bool true) ∧ Below w.heap.size w w' := by
  by_cases hn : (8192 : Int) < n
  · exact minus_large A n c w hn
  have hl := h.len
  rcases xs with _ | ⟨x0, r⟩
  · obtain rfl : n = 0 := by simpa using hl.symm
    exact minus_nil A c w h
  obtain ⟨b, o, rfl, hb, hcell⟩ := h.at_ (by simp at hl; omega)
  have hc0 := hcell 0 x0 rfl
  rw [Nat.add_zero] at hc0
  cases hi : Der.int (x0 :: r) with
  | some ys => exact minus_some b o n c x0 r ys w h hn hc0 hb (Lib.hid hi)
  | none =>
    have hi' := hi
    unfold Der.int at hi
    by_cases h8 : 128 ≤ x0.toNat
    · exact minus_none b o n c x0 r w h hn hc0 hb (Lib.hid hi') (by omega)
    · simp only [if_neg h8] at hi
      by_cases hz : x0.toNat = 0
      · rw [if_pos hz] at hi
        rcases r with _ | ⟨x1, r⟩
        · cases hi
        · by_cases h9 : x1.toNat < 128
          · rw [hz] at hc0
            exact minus_needless b o n c x0 x1 r w h hn hc0 (hcell 1 x1 rfl) hb (Lib.hid hi') (by omega)
          · simp only [if_neg h9] at hi; cases hi
      · rw [if_neg hz] at hi; cases hi
end Go.Proofs.Ytadkiildjehdmaa
