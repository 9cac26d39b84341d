/- The contracts of der.head, der.element and the reference's length. -/
import Derived.Test.YtnfngnmajjkdbaaDoorProg
import Derived.Test.YtnfngnmajjkdbaaDoorMem
import Derived.Test.YtnfngnmajjkdbaaDoorDerSpec
import Derived.Test.YtnfngnmajjkdbaaDoorNum
import Derived.BigQuiet
import Derived.Deep.QuietTactic
namespace Go.Proofs.YtnfngnmajjkdbaaDoor
open Go.RowKit

/-- What head tells: whether, and if so, where and how many. -/
def HeadPost (xs : List UInt8) (w : World) (e : Ending) (w' : World) : Prop :=
  ∃ (f n : Int) (ok : Bool), e = .returned (.tuple #[.int .i64 f, .int .i64 n, .bool ok]) ∧ (∃ k, w' = w.drewN k) ∧
    (ok = true → ∃ f' n' : Nat, f = f' ∧ n = n' ∧ Der.hdr xs = some (f', n')) ∧ (ok = false → Der.hdr xs = none)

theorem head_no {xs : List UInt8} {w w' : World} {f n : Int} (h : Der.hdr xs = none) (hw : ∃ k, w' = w.drewN k) : HeadPost xs w (.returned (.tuple #[.int .i64 f, .int .i64 n, .bool false])) w' :=
  ⟨f, n, false, rfl, hw, (fun h => by cases h), fun _ => h⟩
theorem head_yes {xs : List UInt8} {w w' : World} {f n : Int} {f' n' : Nat} (h : Der.hdr xs = some (f', n')) (hf : f = f') (hn : n = n') (hw : ∃ k, w' = w.drewN k) : HeadPost xs w (.returned (.tuple #[.int .i64 f, .int .i64 n, .bool true])) w' :=
  ⟨f, n, true, rfl, hw, fun _ => ⟨f', n', hf, hn, h⟩, fun h => by cases h⟩

theorem head_end {xs : List UInt8} {w : World} {k m : Nat} (h : Der.hdr xs = if Der.be ((xs.drop 2).take m) < 128 then none else some (2 + m, Der.be ((xs.drop 2).take m))) (hk : k = m) :
    HeadPost xs w (.returned (.tuple #[.int .i64 (2 + (m : Int)), .int .i64 (Der.be (((xs.drop 2).take m).take k) : Int), .bool (decide (128 ≤ (Der.be (((xs.drop 2).take m).take k) : Int)))])) w := by
  subst hk
  rw [List.take_take, Nat.min_self]
  by_cases h1 : Der.be ((xs.drop 2).take k) < 128
  · rw [if_pos h1] at h
    rw [decide_eq_false (by omega)]
    exact head_no h ⟨0, rfl⟩
  · rw [if_neg h1] at h
    rw [decide_eq_true (by omega)]
    exact head_yes h (by omega) rfl ⟨0, rfl⟩

theorem head_small (A : Option Addr) (n c : Nat) (xs : List UInt8) (B : Nat) (w : World) (h : Rd w B A n c xs) (hn : n < 2) :
    Calls Tryd.prog 31 #[.slice A n c] w (HeadPost xs w) := by
  have hx : Der.hdr xs = none := by
    have hl := h.len
    match xs, hl with
    | [], _ => simp [Der.hdr, Der.lenOf]
    | [_], _ => simp [Der.hdr, Der.lenOf]
    | _ :: _ :: _, hl => simp at hl; omega
  have H := Lib.hid hx
  clear hx h
  have h2 : ((n : Int) < 2) := by omega
  go_enter Tryd.func31, Tryd.ntmps31
  go_wp2
  go_ret3
  exact head_no H.out ⟨0, rfl⟩

theorem head_bad (b o n c : Nat) (x0 : UInt8) (xs : List UInt8) (w : World) (hn : 2 ≤ n)
   (h0 : w.cell? ⟨b, o, none⟩ = some (.int .u8 (x0.toNat : Int))) (hx : Hid (Der.hdr xs = none)) (ht : Hid (x0.toNat % 32 = 31)) :
    Calls Tryd.prog 31 #[.slice (some ⟨b, o, none⟩) n c] w (HeadPost xs w) := by
  have hlen : ¬ ((n : Int) < 2) := by omega
  have hlen2 : (0 : Int) < n := by omega
  have hb : (bits .and .u8 (x0.toNat : Int) 31 == 31) = true := by rw [and31, ht.out]; rfl
  go_enter Tryd.func31, Tryd.ntmps31
  go_wp2
  go_ret3
  exact head_no hx.out ⟨0, rfl⟩

theorem head_short (b o n c : Nat) (x0 x1 : UInt8) (xs : List UInt8) (w : World) (hn : 2 ≤ n)
   (h0 : w.cell? ⟨b, o, none⟩ = some (.int .u8 (x0.toNat : Int))) (h1 : w.cell? ⟨b, o + 1, none⟩ = some (.int .u8 (x1.toNat : Int)))
   (ht : Hid (x0.toNat % 32 ≠ 31)) (hl : (x1.toNat : Int) < 128) (hx : Hid (Der.hdr xs = some (2, x1.toNat))) :
    Calls Tryd.prog 31 #[.slice (some ⟨b, o, none⟩) n c] w (HeadPost xs w) := by
  have hlen : ¬ ((n : Int) < 2) := by omega
  have hlen2 : (1 : Int) < n := by omega
  have hb : (bits .and .u8 (x0.toNat : Int) 31 == 31) = false := by rw [and31]; have := ht.out; simp; omega
  go_enter Tryd.func31, Tryd.ntmps31
  go_wp2
  go_quiet (fail)
  go_wp2
  go_ret3
  exact head_yes hx.out rfl rfl ⟨_, rfl⟩

theorem head_long_no0 (b o n c : Nat) (x0 : UInt8) (m : Nat) (xs : List UInt8) (w : World) (hn : 2 ≤ n) (hm : m < 128)
   (h0 : w.cell? ⟨b, o, none⟩ = some (.int .u8 (x0.toNat : Int))) (h1 : w.cell? ⟨b, o + 1, none⟩ = some (.int .u8 ((m : Int) + 128)))
   (ht : Hid (x0.toNat % 32 ≠ 31)) (hx : Hid (Der.hdr xs = none)) (hno : m = 0) :
    Calls Tryd.prog 31 #[.slice (some ⟨b, o, none⟩) n c] w (HeadPost xs w) := by
  subst hno
  have hlen : ¬ ((n : Int) < 2) := by omega
  have hlen2 : (1 : Int) < n := by omega
  have hb : (bits .and .u8 (x0.toNat : Int) 31 == 31) = false := by rw [and31]; have := ht.out; simp; omega
  go_enter Tryd.func31, Tryd.ntmps31
  go_wp2
  go_ret3
  exact head_no hx.out ⟨0, rfl⟩

set_option maxRecDepth 100000 in
theorem head_long_no1 (b o n c : Nat) (x0 : UInt8) (m : Nat) (xs : List UInt8) (w : World) (hn : 2 ≤ n) (hm : m < 128)
   (h0 : w.cell? ⟨b, o, none⟩ = some (.int .u8 (x0.toNat : Int))) (h1 : w.cell? ⟨b, o + 1, none⟩ = some (.int .u8 ((m : Int) + 128)))
   (ht : Hid (x0.toNat % 32 ≠ 31)) (hx : Hid (Der.hdr xs = none)) (hno : 4 < m) :
    Calls Tryd.prog 31 #[.slice (some ⟨b, o, none⟩) n c] w (HeadPost xs w) := by
  have hlen : ¬ ((n : Int) < 2) := by omega
  have hlen2 : (1 : Int) < n := by omega
  have hb : (bits .and .u8 (x0.toNat : Int) 31 == 31) = false := by rw [and31]; have := ht.out; simp; omega
  have e0 : ((m : Int) == 0) = false := by simp; omega
  go_enter Tryd.func31, Tryd.ntmps31
  go_wp2
  go_ret3
  exact head_no hx.out ⟨0, rfl⟩

set_option maxRecDepth 100000 in
theorem head_long_no2 (b o n c : Nat) (x0 : UInt8) (m : Nat) (xs : List UInt8) (w : World) (hn : 2 ≤ n) (hm : m ≤ 4)
   (h0 : w.cell? ⟨b, o, none⟩ = some (.int .u8 (x0.toNat : Int))) (h1 : w.cell? ⟨b, o + 1, none⟩ = some (.int .u8 ((m : Int) + 128)))
   (ht : Hid (x0.toNat % 32 ≠ 31)) (hx : Hid (Der.hdr xs = none)) (hm0 : 0 < m) (hno : n < 2 + m) :
    Calls Tryd.prog 31 #[.slice (some ⟨b, o, none⟩) n c] w (HeadPost xs w) := by
  have hlen : ¬ ((n : Int) < 2) := by omega
  have hlen2 : (1 : Int) < n := by omega
  have hb : (bits .and .u8 (x0.toNat : Int) 31 == 31) = false := by rw [and31]; have := ht.out; simp; omega
  have e0 : ((m : Int) == 0) = false := by simp; omega
  have e1 : ¬ (4 : Int) < m := by omega
  have e2 : (n : Int) < 2 + m := by omega
  go_enter Tryd.func31, Tryd.ntmps31
  go_wp2
  go_ret3
  exact head_no hx.out ⟨0, rfl⟩

set_option maxRecDepth 100000 in
theorem head_long_no3 (b o n c : Nat) (x0 : UInt8) (m : Nat) (xs : List UInt8) (w : World) (hn : 2 + m ≤ n) (hm : m ≤ 4)
   (h0 : w.cell? ⟨b, o, none⟩ = some (.int .u8 (x0.toNat : Int))) (h1 : w.cell? ⟨b, o + 1, none⟩ = some (.int .u8 ((m : Int) + 128))) (h2 : w.cell? ⟨b, o + 2, none⟩ = some (.int .u8 0))
   (ht : Hid (x0.toNat % 32 ≠ 31)) (hx : Hid (Der.hdr xs = none)) (hm0 : 0 < m) :
    Calls Tryd.prog 31 #[.slice (some ⟨b, o, none⟩) n c] w (HeadPost xs w) := by
  have hlen : ¬ ((n : Int) < 2) := by omega
  have hlen2 : (2 : Int) < n := by omega
  have hb : (bits .and .u8 (x0.toNat : Int) 31 == 31) = false := by rw [and31]; have := ht.out; simp; omega
  have e0 : ((m : Int) == 0) = false := by simp; omega
  have e1 : ¬ (4 : Int) < m := by omega
  have e2 : ¬ (n : Int) < 2 + m := by omega
  go_enter Tryd.func31, Tryd.ntmps31
  go_wp2
  go_ret3
  exact head_no hx.out ⟨0, rfl⟩

set_option maxRecDepth 100000 in
set_option maxHeartbeats 400000 in
theorem head_long (b o n c : Nat) (x0 x2 : UInt8) (m : Nat) (xs : List UInt8) (B : Nat) (w : World) (hr : Rd w B (some ⟨b, o, none⟩) n c xs) (hn : 2 + m ≤ n) (hm : m ≤ 4)
   (h0 : w.cell? ⟨b, o, none⟩ = some (.int .u8 (x0.toNat : Int))) (h1 : w.cell? ⟨b, o + 1, none⟩ = some (.int .u8 ((m : Int) + 128))) (h2 : w.cell? ⟨b, o + 2, none⟩ = some (.int .u8 (x2.toNat : Int)))
   (ht : Hid (x0.toNat % 32 ≠ 31)) (hm0 : 0 < m) (hx2 : ((x2.toNat : Int) == 0) = false)
   (hx : Hid (Der.hdr xs = if Der.be ((xs.drop 2).take m) < 128 then none else some (2 + m, Der.be ((xs.drop 2).take m)))) :
    Calls Tryd.prog 31 #[.slice (some ⟨b, o, none⟩) n c] w (HeadPost xs w) := by
  have hcap := hr.cap
  have hcm := hr.capm
  have hlen : ¬ ((n : Int) < 2) := by omega
  have hlen2 : (2 : Int) < n := by omega
  have hb : (bits .and .u8 (x0.toNat : Int) 31 == 31) = false := by rw [and31]; have := ht.out; simp; omega
  have e0 : ((m : Int) == 0) = false := by simp; omega
  have e1 : ¬ (4 : Int) < m := by omega
  have e2 : ¬ (n : Int) < 2 + m := by omega
  go_enter Tryd.func31, Tryd.ntmps31
  go_wp2
  go_loop [3, 55] (fun t i => ∃ k : Nat, k ≤ m ∧ i = .int .i64 k ∧ t = .int .i64 (Der.be (((xs.drop 2).take m).take k))) (fun _ i => m - (intOf i).toNat)
  case atStart => exact ⟨0, Nat.zero_le _, rfl, rfl⟩
  case round =>
    obtain ⟨k, hk, rfl, rfl⟩ := hrel
    by_cases hlt : k < m
    · obtain ⟨x, hx', hc'⟩ := hr.get (k := 2 + k) (by omega)
      have hc2 : w.cell? ⟨b, o + 2 + k, none⟩ = some (.int .u8 (x.toNat : Int)) := by rw [Nat.add_assoc]; exact hc'
      clear hc'
      have HX := Lib.hid (get_take_drop hlt hx')
      clear hx'
      have hxb : (x.toNat : Int) < 256 := by have := x.toNat_lt; omega
      have hbe := Der.be_lt (((xs.drop 2).take m).take k)
      have hpw : 256 ^ (((xs.drop 2).take m).take k).length ≤ 256 ^ 3 := Nat.pow_le_pow_right (by omega) (by simp; omega)
      have hbb : (Der.be (((xs.drop 2).take m).take k) : Int) < 16777216 := by omega
      clear hbe hpw
      have hlt' : (k : Int) < m := by omega
      go_wp2
      go_round
      case rel => 
        refine ⟨k + 1, by omega, by go_num, ?_⟩
        rw [i64_or8 _ _ (by omega) x.toNat_lt, take_snoc HX.out, Der.be_snoc]
      case measure => simp [intOf]; omega
    · have hge : ¬ (k : Int) < m := by omega
      go_wp2
      go_ret3
      have hkm : k = m := by omega
      exact head_end hx.out hkm

/-- head, at any bytes. -/
theorem head_any (A : Option Addr) (n c : Nat) (xs : List UInt8) (B : Nat) (w : World) (h : Rd w B A n c xs) :
    Calls Tryd.prog 31 #[.slice A n c] w (HeadPost xs w) := by
  by_cases hn : n < 2
  · exact head_small A n c xs B w h hn
  have hn2 : 2 ≤ n := by omega
  obtain ⟨b, o, rfl, hbB, hcell⟩ := h.at_ (by omega)
  have hl := h.len
  match xs, hl with
  | [], hl => simp at hl; omega
  | [_], hl => simp at hl; omega
  | x0 :: x1 :: r, hl =>
    simp only [List.length_cons] at hl
    have h0 : w.cell? ⟨b, o, none⟩ = some (.int .u8 (x0.toNat : Int)) := by simpa using hcell 0 x0 rfl
    have h1 : w.cell? ⟨b, o + 1, none⟩ = some (.int .u8 (x1.toNat : Int)) := hcell 1 x1 rfl
    by_cases ht : x0.toNat % 32 = 31
    · exact head_bad b o n c x0 _ w hn2 h0 (by simp [Hid, Der.hdr, Der.tagBad, ht]) ht
    have hnt : Der.tagBad (x0 :: x1 :: r) = false := by simp [Der.tagBad, ht]
    by_cases hs : x1.toNat < 128
    · exact head_short b o n c x0 x1 _ w hn2 h0 h1 ht (by omega) (by simp [Hid, Der.hdr, hnt, Der.lenOf, hs])
    obtain ⟨m, hm⟩ : ∃ m, x1.toNat = m + 128 := ⟨x1.toNat - 128, by omega⟩
    have hlt := x1.toNat_lt
    have h1' : w.cell? ⟨b, o + 1, none⟩ = some (.int .u8 ((m : Int) + 128)) := by rw [h1, hm]; rfl
    have hh : Der.hdr (x0 :: x1 :: r) = if m = 0 ∨ 4 < m ∨ r.length < m ∨ r.headD 0 = 0 then none else if Der.be (r.take m) < 128 then none else some (2 + m, Der.be (r.take m)) := by
      simp only [Der.hdr, hnt, Der.lenOf, hm, Bool.false_eq_true, if_false, Nat.add_sub_cancel]
      rw [if_neg (by omega)]
      have e1 : (m + 128 = 128) = (m = 0) := propext (by omega)
      have e2 : (132 < m + 128) = (4 < m) := propext (by omega)
      simp only [e1, e2]
    by_cases m0 : m = 0
    · exact head_long_no0 b o n c x0 m _ w hn2 (by omega) h0 h1' ht (by rw [Hid, hh, if_pos (by omega)]) m0
    by_cases m4 : 4 < m
    · exact head_long_no1 b o n c x0 m _ w hn2 (by omega) h0 h1' ht (by rw [Hid, hh, if_pos (by omega)]) m4
    by_cases ml : r.length < m
    · exact head_long_no2 b o n c x0 m _ w hn2 (by omega) h0 h1' ht (by rw [Hid, hh, if_pos (by omega)]) (by omega) (by omega)
    match r, hl, hcell, hh, ml with
    | [], _, _, _, ml => simp at ml; omega
    | x2 :: r, hl, hcell, hh, ml =>
      simp only [List.length_cons] at ml hl
      have h2 : w.cell? ⟨b, o + 2, none⟩ = some (.int .u8 (x2.toNat : Int)) := hcell 2 x2 rfl
      by_cases z : x2 = 0
      · subst z
        exact head_long_no3 b o n c x0 m _ w (by omega) (by omega) h0 h1' h2 ht (by rw [Hid, hh, if_pos (by simp)]) (by omega)
      · have zn : x2.toNat ≠ 0 := fun e => z (UInt8.toNat_inj.1 e)
        refine head_long b o n c x0 x2 m _ B w h (by omega) (by omega) h0 h1' h2 ht (by omega) (by simp; omega) ?_
        rw [Hid, hh, if_neg (by simp [z]; omega)]
        rfl
end Go.Proofs.YtnfngnmajjkdbaaDoor
