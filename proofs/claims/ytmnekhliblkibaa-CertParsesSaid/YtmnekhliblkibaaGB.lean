/- Joined of: Der1 Der2 Each Each2 Thr Der3 All1 Der4 All2. -/
import Derived.Test.YtmnekhliblkibaaProg
import Derived.Test.YtmnekhliblkibaaGA
import Derived.BigQuiet
import Derived.Deep.QuietTactic
import Derived.BigRegion
import Derived.StillTailTactics
import Derived.Deep.RegionHeld3
import Derived.RangeFuncNested
import Derived.RangeFuncBound
import Derived.RangeFuncCalls
import Derived.RangeFuncLeaves
import Derived.Shelf.Abstract
import Derived.Shelf.RegionOpen
import Derived.WalkKit
import Derived.OwnWalkIn
import Derived.TacticsInMore
import Derived.LoopNIn
import Derived.LoopIn
import Derived.Stop.RegionWithIn
section
/- The contracts of der.head, der.element and the reference's length. -/
namespace Go.Proofs.Ytmnekhliblkibaa
open Go.RowKit

/-- What head tells: whether, and if so, where and how many. -/
def HeadPost (xs : List UInt8) (w : World) (e : Ending) (w' : World) : Prop :=
  ∃ (f n : Int) (ok : Bool), e = .returned (.tuple #[.int .i64 f, .int .i64 n, .bool ok]) ∧ (∃ k, w' = w.drewN k) ∧
    (ok = true → ∃ f' n' : Nat, f = f' ∧ n = n' ∧ Der.hdr xs = some (f', n')) ∧ (ok = false → Der.hdr xs = none)

theorem head_no {xs : List UInt8} {w w' : World} {f n : Int} (h : Der.hdr xs = none) (hw : ∃ k, w' = w.drewN k) : HeadPost xs w (.returned (.tuple #[.int .i64 f, .int .i64 n, .bool false])) w' :=
  ⟨f, n, false, rfl, hw, (fun h => by cases h), fun _ => h⟩
theorem head_yes {xs : List UInt8} {w w' : World} {f n : Int} {f' n' : Nat} (h : Der.hdr xs = some (f', n')) (hf : f = f') (hn : n = n') (hw : ∃ k, w' = w.drewN k) : HeadPost xs w (.returned (.tuple #[.int .i64 f, .int .i64 n, .bool true])) w' :=
  ⟨f, n, true, rfl, hw, fun _ => ⟨f', n', hf, hn, h⟩, fun h => by cases h⟩

theorem head_end {xs : List UInt8} {w : World} {k m : Nat} (h : Der.hdr xs = if Der.be ((xs.drop 2).take m) < 128 then none else some (2 + m, Der.be ((xs.drop 2).take m))) (hk : k = m) :
    HeadPost xs w (.returned (.tuple #[.int .i64 (2 + (m : Int)), .int .i64 (Der.be (((xs.drop 2).take m).take k) : Int), .bool (decide (128 ≤ (Der.be (((xs.drop 2).take m).take k) : Int)))])) w := by
  subst hk
  rw [List.take_take, Nat.min_self]
  by_cases h1 : Der.be ((xs.drop 2).take k) < 128
  · rw [if_pos h1] at h
    rw [decide_eq_false (by omega)]
    exact head_no h ⟨0, rfl⟩
  · rw [if_neg h1] at h
    rw [decide_eq_true (by omega)]
    exact head_yes h (by omega) rfl ⟨0, rfl⟩

theorem head_small (A : Option Addr) (n c : Nat) (xs : List UInt8) (B : Nat) (w : World) (h : Rd w B A n c xs) (hn : n < 2) :
    Calls Try.prog 83 #[.slice A n c] w (HeadPost xs w) := by
  have hx : Der.hdr xs = none := by
    have hl := h.len
    match xs, hl with
    | [], _ => simp [Der.hdr, Der.lenOf]
    | [_], _ => simp [Der.hdr, Der.lenOf]
    | _ :: _ :: _, hl => simp at hl; omega
  have H := Lib.hid hx
  clear hx h
  have h2 : ((n : Int) < 2) := by omega
  go_enter Try.func83, Try.ntmps83
  go_wp2
  go_ret3
  exact head_no H.out ⟨0, rfl⟩

theorem head_bad (b o n c : Nat) (x0 : UInt8) (xs : List UInt8) (w : World) (hn : 2 ≤ n)
   (h0 : w.cell? ⟨b, o, none⟩ = some (.int .u8 (x0.toNat : Int))) (hx : Hid (Der.hdr xs = none)) (ht : Hid (x0.toNat % 32 = 31)) :
    Calls Try.prog 83 #[.slice (some ⟨b, o, none⟩) n c] w (HeadPost xs w) := by
  have hlen : ¬ ((n : Int) < 2) := by omega
  have hlen2 : (0 : Int) < n := by omega
  have hb : (bits .and .u8 (x0.toNat : Int) 31 == 31) = true := by rw [and31, ht.out]; rfl
  go_enter Try.func83, Try.ntmps83
  go_wp2
  go_ret3
  exact head_no hx.out ⟨0, rfl⟩

theorem head_short (b o n c : Nat) (x0 x1 : UInt8) (xs : List UInt8) (w : World) (hn : 2 ≤ n)
   (h0 : w.cell? ⟨b, o, none⟩ = some (.int .u8 (x0.toNat : Int))) (h1 : w.cell? ⟨b, o + 1, none⟩ = some (.int .u8 (x1.toNat : Int)))
   (ht : Hid (x0.toNat % 32 ≠ 31)) (hl : (x1.toNat : Int) < 128) (hx : Hid (Der.hdr xs = some (2, x1.toNat))) :
    Calls Try.prog 83 #[.slice (some ⟨b, o, none⟩) n c] w (HeadPost xs w) := by
  have hlen : ¬ ((n : Int) < 2) := by omega
  have hlen2 : (1 : Int) < n := by omega
  have hb : (bits .and .u8 (x0.toNat : Int) 31 == 31) = false := by rw [and31]; have := ht.out; simp; omega
  go_enter Try.func83, Try.ntmps83
  go_wp2
  go_quiet (fail)
  go_wp2
  go_ret3
  exact head_yes hx.out rfl rfl ⟨_, rfl⟩

theorem head_long_no0 (b o n c : Nat) (x0 : UInt8) (m : Nat) (xs : List UInt8) (w : World) (hn : 2 ≤ n) (hm : m < 128)
   (h0 : w.cell? ⟨b, o, none⟩ = some (.int .u8 (x0.toNat : Int))) (h1 : w.cell? ⟨b, o + 1, none⟩ = some (.int .u8 ((m : Int) + 128)))
   (ht : Hid (x0.toNat % 32 ≠ 31)) (hx : Hid (Der.hdr xs = none)) (hno : m = 0) :
    Calls Try.prog 83 #[.slice (some ⟨b, o, none⟩) n c] w (HeadPost xs w) := by
  subst hno
  have hlen : ¬ ((n : Int) < 2) := by omega
  have hlen2 : (1 : Int) < n := by omega
  have hb : (bits .and .u8 (x0.toNat : Int) 31 == 31) = false := by rw [and31]; have := ht.out; simp; omega
  go_enter Try.func83, Try.ntmps83
  go_wp2
  go_ret3
  exact head_no hx.out ⟨0, rfl⟩

set_option maxRecDepth 100000 in
theorem head_long_no1 (b o n c : Nat) (x0 : UInt8) (m : Nat) (xs : List UInt8) (w : World) (hn : 2 ≤ n) (hm : m < 128)
   (h0 : w.cell? ⟨b, o, none⟩ = some (.int .u8 (x0.toNat : Int))) (h1 : w.cell? ⟨b, o + 1, none⟩ = some (.int .u8 ((m : Int) + 128)))
   (ht : Hid (x0.toNat % 32 ≠ 31)) (hx : Hid (Der.hdr xs = none)) (hno : 4 < m) :
    Calls Try.prog 83 #[.slice (some ⟨b, o, none⟩) n c] w (HeadPost xs w) := by
  have hlen : ¬ ((n : Int) < 2) := by omega
  have hlen2 : (1 : Int) < n := by omega
  have hb : (bits .and .u8 (x0.toNat : Int) 31 == 31) = false := by rw [and31]; have := ht.out; simp; omega
  have e0 : ((m : Int) == 0) = false := by simp; omega
  go_enter Try.func83, Try.ntmps83
  go_wp2
  go_ret3
  exact head_no hx.out ⟨0, rfl⟩

set_option maxRecDepth 100000 in
theorem head_long_no2 (b o n c : Nat) (x0 : UInt8) (m : Nat) (xs : List UInt8) (w : World) (hn : 2 ≤ n) (hm : m ≤ 4)
   (h0 : w.cell? ⟨b, o, none⟩ = some (.int .u8 (x0.toNat : Int))) (h1 : w.cell? ⟨b, o + 1, none⟩ = some (.int .u8 ((m : Int) + 128)))
   (ht : Hid (x0.toNat % 32 ≠ 31)) (hx : Hid (Der.hdr xs = none)) (hm0 : 0 < m) (hno : n < 2 + m) :
    Calls Try.prog 83 #[.slice (some ⟨b, o, none⟩) n c] w (HeadPost xs w) := by
  have hlen : ¬ ((n : Int) < 2) := by omega
  have hlen2 : (1 : Int) < n := by omega
  have hb : (bits .and .u8 (x0.toNat : Int) 31 == 31) = false := by rw [and31]; have := ht.out; simp; omega
  have e0 : ((m : Int) == 0) = false := by simp; omega
  have e1 : ¬ (4 : Int) < m := by omega
  have e2 : (n : Int) < 2 + m := by omega
  go_enter Try.func83, Try.ntmps83
  go_wp2
  go_ret3
  exact head_no hx.out ⟨0, rfl⟩

set_option maxRecDepth 100000 in
theorem head_long_no3 (b o n c : Nat) (x0 : UInt8) (m : Nat) (xs : List UInt8) (w : World) (hn : 2 + m ≤ n) (hm : m ≤ 4)
   (h0 : w.cell? ⟨b, o, none⟩ = some (.int .u8 (x0.toNat : Int))) (h1 : w.cell? ⟨b, o + 1, none⟩ = some (.int .u8 ((m : Int) + 128))) (h2 : w.cell? ⟨b, o + 2, none⟩ = some (.int .u8 0))
   (ht : Hid (x0.toNat % 32 ≠ 31)) (hx : Hid (Der.hdr xs = none)) (hm0 : 0 < m) :
    Calls Try.prog 83 #[.slice (some ⟨b, o, none⟩) n c] w (HeadPost xs w) := by
  have hlen : ¬ ((n : Int) < 2) := by omega
  have hlen2 : (2 : Int) < n := by omega
  have hb : (bits .and .u8 (x0.toNat : Int) 31 == 31) = false := by rw [and31]; have := ht.out; simp; omega
  have e0 : ((m : Int) == 0) = false := by simp; omega
  have e1 : ¬ (4 : Int) < m := by omega
  have e2 : ¬ (n : Int) < 2 + m := by omega
  go_enter Try.func83, Try.ntmps83
  go_wp2
  go_ret3
  exact head_no hx.out ⟨0, rfl⟩

set_option maxRecDepth 100000 in
set_option maxHeartbeats 400000 in
theorem head_long (b o n c : Nat) (x0 x2 : UInt8) (m : Nat) (xs : List UInt8) (B : Nat) (w : World) (hr : Rd w B (some ⟨b, o, none⟩) n c xs) (hn : 2 + m ≤ n) (hm : m ≤ 4)
   (h0 : w.cell? ⟨b, o, none⟩ = some (.int .u8 (x0.toNat : Int))) (h1 : w.cell? ⟨b, o + 1, none⟩ = some (.int .u8 ((m : Int) + 128))) (h2 : w.cell? ⟨b, o + 2, none⟩ = some (.int .u8 (x2.toNat : Int)))
   (ht : Hid (x0.toNat % 32 ≠ 31)) (hm0 : 0 < m) (hx2 : ((x2.toNat : Int) == 0) = false)
   (hx : Hid (Der.hdr xs = if Der.be ((xs.drop 2).take m) < 128 then none else some (2 + m, Der.be ((xs.drop 2).take m)))) :
    Calls Try.prog 83 #[.slice (some ⟨b, o, none⟩) n c] w (HeadPost xs w) := by
  have hcap := hr.cap
  have hcm := hr.capm
  have hlen : ¬ ((n : Int) < 2) := by omega
  have hlen2 : (2 : Int) < n := by omega
  have hb : (bits .and .u8 (x0.toNat : Int) 31 == 31) = false := by rw [and31]; have := ht.out; simp; omega
  have e0 : ((m : Int) == 0) = false := by simp; omega
  have e1 : ¬ (4 : Int) < m := by omega
  have e2 : ¬ (n : Int) < 2 + m := by omega
  go_enter Try.func83, Try.ntmps83
  go_wp2
  go_loop [3, 55] (fun t i => ∃ k : Nat, k ≤ m ∧ i = .int .i64 k ∧ t = .int .i64 (Der.be (((xs.drop 2).take m).take k))) (fun _ i => m - (intOf i).toNat)
  case atStart => exact ⟨0, Nat.zero_le _, rfl, rfl⟩
  case round =>
    obtain ⟨k, hk, rfl, rfl⟩ := hrel
    by_cases hlt : k < m
    · obtain ⟨x, hx', hc'⟩ := hr.get (k := 2 + k) (by omega)
      have hc2 : w.cell? ⟨b, o + 2 + k, none⟩ = some (.int .u8 (x.toNat : Int)) := by rw [Nat.add_assoc]; exact hc'
      clear hc'
      have HX := Lib.hid (get_take_drop hlt hx')
      clear hx'
      have hxb : (x.toNat : Int) < 256 := by have := x.toNat_lt; omega
      have hbe := Der.be_lt (((xs.drop 2).take m).take k)
      have hpw : 256 ^ (((xs.drop 2).take m).take k).length ≤ 256 ^ 3 := Nat.pow_le_pow_right (by omega) (by simp; omega)
      have hbb : (Der.be (((xs.drop 2).take m).take k) : Int) < 16777216 := by omega
      clear hbe hpw
      have hlt' : (k : Int) < m := by omega
      go_wp2
      go_round
      case rel => 
        refine ⟨k + 1, by omega, by go_num, ?_⟩
        rw [i64_or8 _ _ (by omega) x.toNat_lt, take_snoc HX.out, Der.be_snoc]
      case measure => simp [intOf]; omega
    · have hge : ¬ (k : Int) < m := by omega
      go_wp2
      go_ret3
      have hkm : k = m := by omega
      exact head_end hx.out hkm

/-- head, at any bytes. -/
theorem head_any (A : Option Addr) (n c : Nat) (xs : List UInt8) (B : Nat) (w : World) (h : Rd w B A n c xs) :
    Calls Try.prog 83 #[.slice A n c] w (HeadPost xs w) := by
  by_cases hn : n < 2
  · exact head_small A n c xs B w h hn
  have hn2 : 2 ≤ n := by omega
  obtain ⟨b, o, rfl, hbB, hcell⟩ := h.at_ (by omega)
  have hl := h.len
  match xs, hl with
  | [], hl => simp at hl; omega
  | [_], hl => simp at hl; omega
  | x0 :: x1 :: r, hl =>
    simp only [List.length_cons] at hl
    have h0 : w.cell? ⟨b, o, none⟩ = some (.int .u8 (x0.toNat : Int)) := by simpa using hcell 0 x0 rfl
    have h1 : w.cell? ⟨b, o + 1, none⟩ = some (.int .u8 (x1.toNat : Int)) := hcell 1 x1 rfl
    by_cases ht : x0.toNat % 32 = 31
    · exact head_bad b o n c x0 _ w hn2 h0 (by simp [Hid, Der.hdr, Der.tagBad, ht]) ht
    have hnt : Der.tagBad (x0 :: x1 :: r) = false := by simp [Der.tagBad, ht]
    by_cases hs : x1.toNat < 128
    · exact head_short b o n c x0 x1 _ w hn2 h0 h1 ht (by omega) (by simp [Hid, Der.hdr, hnt, Der.lenOf, hs])
    obtain ⟨m, hm⟩ : ∃ m, x1.toNat = m + 128 := ⟨x1.toNat - 128, by omega⟩
    have hlt := x1.toNat_lt
    have h1' : w.cell? ⟨b, o + 1, none⟩ = some (.int .u8 ((m : Int) + 128)) := by rw [h1, hm]; rfl
    have hh : Der.hdr (x0 :: x1 :: r) = if m = 0 ∨ 4 < m ∨ r.length < m ∨ r.headD 0 = 0 then none else if Der.be (r.take m) < 128 then none else some (2 + m, Der.be (r.take m)) := by
      simp only [Der.hdr, hnt, Der.lenOf, hm, Bool.false_eq_true, if_false, Nat.add_sub_cancel]
      rw [if_neg (by omega)]
      have e1 : (m + 128 = 128) = (m = 0) := propext (by omega)
      have e2 : (132 < m + 128) = (4 < m) := propext (by omega)
      simp only [e1, e2]
    by_cases m0 : m = 0
    · exact head_long_no0 b o n c x0 m _ w hn2 (by omega) h0 h1' ht (by rw [Hid, hh, if_pos (by omega)]) m0
    by_cases m4 : 4 < m
    · exact head_long_no1 b o n c x0 m _ w hn2 (by omega) h0 h1' ht (by rw [Hid, hh, if_pos (by omega)]) m4
    by_cases ml : r.length < m
    · exact head_long_no2 b o n c x0 m _ w hn2 (by omega) h0 h1' ht (by rw [Hid, hh, if_pos (by omega)]) (by omega) (by omega)
    match r, hl, hcell, hh, ml with
    | [], _, _, _, ml => simp at ml; omega
    | x2 :: r, hl, hcell, hh, ml =>
      simp only [List.length_cons] at ml hl
      have h2 : w.cell? ⟨b, o + 2, none⟩ = some (.int .u8 (x2.toNat : Int)) := hcell 2 x2 rfl
      by_cases z : x2 = 0
      · subst z
        exact head_long_no3 b o n c x0 m _ w (by omega) (by omega) h0 h1' h2 ht (by rw [Hid, hh, if_pos (by simp)]) (by omega)
      · have zn : x2.toNat ≠ 0 := fun e => z (UInt8.toNat_inj.1 e)
        refine head_long b o n c x0 x2 m _ B w h (by omega) (by omega) h0 h1' h2 ht (by omega) (by simp; omega) ?_
        rw [Hid, hh, if_neg (by simp [z]; omega)]
        rfl
end Go.Proofs.Ytmnekhliblkibaa
end

section
/- The contracts of der.element, der.own, der.Parse. -/
namespace Go.Proofs.Ytmnekhliblkibaa
open Go.RowKit
set_option maxRecDepth 100000

theorem bcell {W w1 : World} (hb : Below W.heap.size W w1) : (∀ b o, b < W.heap.size → w1.cell? ⟨b, o, none⟩ = W.cell? ⟨b, o, none⟩) ∧ (∀ b o, b < W.heap.size → w1.frozen? ⟨b, o, none⟩ = W.frozen? ⟨b, o, none⟩) :=
  ⟨fun b o h => hb.cell (p := ⟨b, o, none⟩) h, fun b o h => hb.frozen (p := ⟨b, o, none⟩) h⟩

/-- What element tells of the bytes xs: slices of the same memory, below B as they are. -/
def ElemPost (B : Nat) (xs : List UInt8) (w : World) (e : Ending) (w' : World) : Prop :=
  Below w.heap.size w w' ∧
  ((Der.elem xs = none ∧ e = .returned (.tuple #[.agg #[.int .u8 0, .slice none 0 0, .slice none 0 0], .slice none 0 0, .bool false])) ∨
   ∃ t body raw rest A1 n1 c1 A2 n2 c2 A3 n3 c3, Der.elem xs = some (t, body, raw, rest) ∧
     e = .returned (.tuple #[.agg #[.int .u8 (t.toNat : Int), .slice A1 n1 c1, .slice A2 n2 c2], .slice A3 n3 c3, .bool true]) ∧
     Rd w B A1 n1 c1 body ∧ Rd w B A2 n2 c2 raw ∧ Rd w B A3 n3 c3 rest)

theorem elem_none {xs : List UInt8} (h : Der.hdr xs = none) : Der.elem xs = none := by simp [Der.elem, h]

theorem elem_yes {xs : List UInt8} {B : Nat} {w w' : World} {t : UInt8} {body raw rest : List UInt8} {A1 A2 A3 : Option Addr} {n1 n2 n3 c1 c2 c3 : Nat} (h : Der.elem xs = some (t, body, raw, rest)) (hb : Below w.heap.size w w')
    (h1 : Rd w B A1 n1 c1 body) (h2 : Rd w B A2 n2 c2 raw) (h3 : Rd w B A3 n3 c3 rest) :
    ElemPost B xs w (.returned (.tuple #[.agg #[.int .u8 (t.toNat : Int), .slice A1 n1 c1, .slice A2 n2 c2], .slice A3 n3 c3, .bool true])) w' :=
  ⟨hb, .inr ⟨t, body, raw, rest, _, _, _, _, _, _, _, _, _, h, rfl, h1, h2, h3⟩⟩
theorem hdr_len {xs : List UInt8} {f n : Nat} (h : Der.hdr xs = some (f, n)) : Der.lenOf xs = some (f, n) := by
  unfold Der.hdr at h
  split at h
  · cases h
  · exact h

set_option maxHeartbeats 400000 in
theorem element_any (A : Option Addr) (n c : Nat) (xs : List UInt8) (B : Nat) (w : World) (h : Rd w B A n c xs) (hB : B ≤ w.heap.size) :
    Calls Try.prog 59 #[.slice A n c] w (ElemPost B xs w) := by
  have hcap := h.cap
  have hcm := h.capm
  have hl := h.len
  go_enter Try.func59, Try.ntmps59
  go_wp2_with fail
  refine (head_any A n c xs B _ (h.alloc hB _)).mono ?_
  rintro e w' ⟨f, k, ok, rfl, ⟨nd, rfl⟩, hyes, hno⟩
  cases ok with
  | false =>
    have HNO := Lib.hid (elem_none (hno rfl))
    clear hyes hno
    go_wp2
    exact bodyPost_ret (v := .tuple #[.agg #[.int .u8 0, .slice none 0 0, .slice none 0 0], .slice none 0 0, .bool false]) (by simp [results, Try.results59, go_sem]) rfl ⟨by (repeat (first | exact Below.refl _ _ | assumption | (refine Below.setCell ?_ (by first | omega | (simp; done) | (simp; omega)) _) | (refine Below.alloc ?_ (by first | omega | (simp; done) | (simp; omega)) _) | (refine below_drewN ?_ _) | (refine Below.drew ?_))), .inl ⟨HNO.out, rfl⟩⟩
  | true =>
    obtain ⟨f', n', rfl, rfl, hd⟩ := hyes rfl
    clear hno hyes
    obtain ⟨hf2, hf6, hfl, hn32⟩ := Der.lenOf_bd (hdr_len hd)
    rw [hl] at hfl
    have hel : Der.elem xs = if n' ≤ n - f' then some (xs.headD 0, (xs.take (f' + n')).drop f', xs.take (f' + n'), xs.drop (f' + n')) else none := by
      simp [Der.elem, hd, hl]
    have HEL := Lib.hid hel
    clear hel hd
    by_cases hfit : n' ≤ n - f'
    · have hgt : ¬ ((n : Int) - f' < n') := by omega
      obtain ⟨b, o, rfl, hbB, hcell⟩ := h.at_ (by omega)
      have hbw : b < w.heap.size := by omega
      have h0 : w.cell? ⟨b, o, none⟩ = some (.int .u8 ((xs.headD 0).toNat : Int)) := by
        have hx : xs[0]? = some (xs.headD 0) := by cases xs with
          | nil => simp at hl; omega
          | cons x r => rfl
        simpa using hcell 0 _ hx
      obtain ⟨A1, hr1, c1, d1⟩ := run_cut h f' (f' + n') (f' : Int) ((f' : Int) + (n' : Int)) rfl (by omega) (by omega) (by omega)
      obtain ⟨A2, hr2, c2, d2⟩ := run_cut_lo h (f' + n') ((f' : Int) + (n' : Int)) (by omega) (by omega)
      have hr3 := h.upto (f' + n') (by omega)
      have el := HEL.out
      rw [if_pos hfit] at el
      have HX := Lib.hid (And.intro el (And.intro hr1 (And.intro hr2 hr3)))
      clear h hcell hl el hr1 hr2 hr3 HEL
      go_wp2
      go_region
      go_wp2
      exact bodyPost_ret (v := .tuple #[.agg #[.int .u8 ((xs.headD 0).toNat : Int), .slice A1 (f' + n' - f') (c - f'), .slice (some ⟨b, o, none⟩) (f' + n') c], .slice A2 (n - (f' + n')) (c - (f' + n')), .bool true]) (by simp [results, Try.results59, go_sem]) rfl
        (elem_yes HX.out.1 (by (repeat (first | exact Below.refl _ _ | assumption | (refine Below.setCell ?_ (by first | omega | (simp; done) | (simp; omega)) _) | (refine Below.alloc ?_ (by first | omega | (simp; done) | (simp; omega)) _) | (refine below_drewN ?_ _) | (refine Below.drew ?_)))) HX.out.2.1 HX.out.2.2.2 HX.out.2.2.1)
    · have hgt : ((n : Int) - f' < n') := by omega
      have hno := HEL.out
      rw [if_neg hfit] at hno
      have HNO := Lib.hid hno
      clear hno
      go_wp2
      exact bodyPost_ret (v := .tuple #[.agg #[.int .u8 0, .slice none 0 0, .slice none 0 0], .slice none 0 0, .bool false]) (by simp [results, Try.results59, go_sem]) rfl ⟨by (repeat (first | exact Below.refl _ _ | assumption | (refine Below.setCell ?_ (by first | omega | (simp; done) | (simp; omega)) _) | (refine Below.alloc ?_ (by first | omega | (simp; done) | (simp; omega)) _) | (refine below_drewN ?_ _) | (refine Below.drew ?_))), .inl ⟨HNO.out, rfl⟩⟩
end Go.Proofs.Ytmnekhliblkibaa
end

section
/- A range over the elements of bytes: der.each: the law for whoever ranges over it. -/
namespace Go.Proofs.Ytmnekhliblkibaa
open Go.RowKit Go.Shelf
attribute [local go_sem] Oper.semAt_some
set_option maxRecDepth 100000

/-- The elements of which bytes consist, as far as they are right; a last 'none', if what is left is no element. -/
def Der.seqF : Nat → List UInt8 → List (Option (UInt8 × List UInt8 × List UInt8))
  | 0, _ => []
  | k + 1, xs => if xs = [] then [] else match Der.elem xs with
    | none => [none]
    | some (t, body, raw, rest) => some (t, body, raw) :: Der.seqF k rest
def Der.seq (xs : List UInt8) : List (Option (UInt8 × List UInt8 × List UInt8)) := Der.seqF xs.length xs

theorem elem_rest {xs : List UInt8} {t : UInt8} {body raw rest : List UInt8} (h : Der.elem xs = some (t, body, raw, rest)) : rest.length < xs.length := by
  unfold Der.elem at h
  split at h
  · rename_i f n hd
    split at h
    · simp only [Option.some.injEq, Prod.mk.injEq] at h
      obtain ⟨_, rfl, rfl, rfl⟩ := h
      have := Der.lenOf_bd (hdr_len hd)
      simp; omega
    · cases h
  · cases h
theorem seqF_more : ∀ (k : Nat) (xs : List UInt8), xs.length ≤ k → Der.seqF (k + 1) xs = Der.seqF k xs
  | 0, xs, h => by
    have : xs = [] := List.eq_nil_of_length_eq_zero (by omega)
    subst this; rfl
  | k + 1, xs, h => by
    rw [Der.seqF, Der.seqF]
    by_cases e : xs = []
    · rw [if_pos e, if_pos e]
    · rw [if_neg e, if_neg e]
      cases he : Der.elem xs with
      | none => rfl
      | some x =>
        obtain ⟨t, body, raw, rest⟩ := x
        have hr := elem_rest he
        simp only
        rw [seqF_more k rest (by omega)]
theorem seqF_enough {k : Nat} {xs : List UInt8} (h : xs.length ≤ k) : Der.seqF k xs = Der.seq xs := by
  have key : ∀ j, Der.seqF (xs.length + j) xs = Der.seq xs := by
    intro j
    induction j with
    | zero => rfl
    | succ j ih => rw [← Nat.add_assoc, seqF_more _ _ (by omega), ih]
  have := key (k - xs.length)
  rwa [show xs.length + (k - xs.length) = k from by omega] at this
theorem seq_nil : Der.seq [] = [] := rfl
theorem seq_none {xs : List UInt8} (hx : xs ≠ []) (h : Der.elem xs = none) : Der.seq xs = [none] := by
  have hl : 0 < xs.length := List.length_pos_iff.2 hx
  unfold Der.seq
  rw [show xs.length = xs.length - 1 + 1 from by omega, Der.seqF, if_neg hx, h]
theorem seq_some {xs : List UInt8} {t : UInt8} {body raw rest : List UInt8} (hx : xs ≠ []) (h : Der.elem xs = some (t, body, raw, rest)) : Der.seq xs = some (t, body, raw) :: Der.seq rest := by
  have hl : 0 < xs.length := List.length_pos_iff.2 hx
  have hr := elem_rest h
  unfold Der.seq
  rw [show xs.length = xs.length - 1 + 1 from by omega, Der.seqF, if_neg hx, h]
  simp only
  rw [seqF_enough (by omega)]
  rfl

/-- What is handed on: the element as data, and as a value. -/
structure Item where
  dat : Option (UInt8 × List UInt8 × List UInt8)
  v : Value
  ok : Bool
/-- The value is the datum's, in memory below n₀ of w₀. -/
def Item.good (n₀ : Nat) (w₀ : World) (x : Item) : Prop :=
  (x.dat = none ∧ x.v = .agg #[.int .u8 0, .slice none 0 0, .slice none 0 0] ∧ x.ok = false) ∨
  ∃ t body raw A1 n1 c1 A2 n2 c2, x.dat = some (t, body, raw) ∧ x.v = .agg #[.int .u8 (t.toNat : Int), .slice A1 n1 c1, .slice A2 n2 c2] ∧ x.ok = true ∧ Rd w₀ n₀ A1 n1 c1 body ∧ Rd w₀ n₀ A2 n2 c2 raw

/-- What the iterator itself does to memory: new blocks, and stores into the cell of its own. -/
def AbCell {β : Type} (Bn : Nat) (J : β → World → Prop) : Prop := ∀ s X Y, J s X → X.grownBy Y (some Bn) → J s Y

theorem grownBy_below {w w' : World} (h : Below w.heap.size w w') (r : Option Nat) : w.grownBy w' r := ⟨h.os, h.tape, h.output, h.size, fun k hk _ => h.block k hk⟩
theorem _root_.Go.World.grownBy.alloc {w w' : World} {r : Option Nat} (h : w.grownBy w' r) (o : Obj) : w.grownBy (w'.alloc o) r :=
  ⟨h.os, h.tape, h.output, Nat.le_trans h.size (by simp), fun i hi hne => (Below.heap_alloc w' o i (Nat.lt_of_lt_of_le hi h.size)).trans (h.block i hi hne)⟩

set_option maxHeartbeats 2000000 in
/-- der.each's closure: every element is handed on, in order, till the round says no more. -/
theorem each1_in (n : Nat) (hn : 1 ≤ n) (l Bn n₀ : Nat) (w₀ : World) (A : Option Addr) (m c : Nat) (xs : List UInt8) (hr : Rd w₀ n₀ A m c xs) (J Jx : List Item → World → Prop)
    (hJ : AbCell Bn J) (hJx : AbCell Bn Jx) (hJb : ∀ s X, J s X → Below n₀ w₀ X ∧ n₀ ≤ X.heap.size)
    (hY : ∀ pre x W1, J pre W1 → x.good n₀ w₀ → (∃ tl, Der.seq xs = (pre ++ [x]).map (·.dat) ++ tl) → YieldAt Fence.wide (n - 1) Try.prog l #[x.v, .bool x.ok] W1 fun e W' =>
      (e = .returned (.bool true) ∧ J (pre ++ [x]) W' ∧ W'.heap[Bn]? = W1.heap[Bn]?) ∨ (e = .returned (.bool false) ∧ Jx (pre ++ [x]) W'))
    (W : World) (hW : Blk W Bn 22 #[.slice A m c]) (h0 : J [] W) :
    CallsIn Fence.wide n Try.prog 101 #[.func (.yield l) #[] #[], .pointer (some ⟨Bn, 0, none⟩)] W fun e W' => (∃ v, e = .returned v) ∧
      ((∃ ys, ys.map (·.dat) = Der.seq xs ∧ J ys W') ∨ (∃ pre, Jx pre W')) := by
  refine callsIn_of_wp Try.func101 rfl trivial ?_ rfl
  simp only [Try.ntmps101, List.size_toArray, List.length_cons, List.length_nil, Nat.reduceAdd, Nat.reduceSub, Array.replicate_succ, Array.replicate_zero, List.push_toArray, List.append_toArray, List.nil_append, List.cons_append]
  gi_wp2
  gi_loopw [3] (fun _ wr => ∃ (pre : List Item) (ys : List UInt8) (A' : Option Addr) (m' c' : Nat), Der.seq xs = pre.map (·.dat) ++ Der.seq ys ∧ Rd w₀ n₀ A' m' c' ys ∧ Blk wr Bn 22 #[.slice A' m' c'] ∧ J pre wr)
    (fun _ wr => match wr.cell? ⟨Bn, 0, none⟩ with | some (.slice _ m' _) => m' | _ => 0)
  case atStart => exact ⟨[], xs, A, m, c, rfl, hr, hW, h0⟩
  case round =>
    obtain ⟨pre, ys, A', m', c', hs, hy, hB, hj⟩ := hrel
    obtain ⟨hc0, hf0⟩ := hB.facts
    by_cases hlt : 0 < m'
    · have hlt' : (0 : Int) < m' := by omega
      have hne : ys ≠ [] := by rintro rfl; have := hy.len; simp at this; omega
      obtain ⟨hbl, hsz⟩ := hJb _ _ hj
      have hyr := hy.below hbl
      have HH := Lib.hid (And.intro hs (And.intro hy (And.intro hj (And.intro hbl hyr))))
      have HYJ := Lib.hid (And.intro hY (And.intro hJ hJx))
      clear hs hy hj hbl hyr hY hJ hJx h0
      gi_wp2_with fail
      refine ⟨trivial, (callsIn_wide.2 (element_any A' m' c' ys n₀ wr HH.out.2.2.2.2 hsz)).mono ?_⟩
      rintro e w2 ⟨hb2, ⟨hno, rfl⟩ | ⟨t, body, raw, rest, A1, n1, c1, A2, n2, c2, A3, n3, c3, hel, rfl, h1, h2, h3⟩⟩
      · have HNO := Lib.hid hno
        clear hno hc0 hf0
        have hj1 := HYJ.out.2.1 _ _ _ HH.out.2.2.1 ((grownBy_below hb2 (some Bn)).alloc (.cells #[.int .u8 0, .slice none 0 0, .slice none 0 0] 50))
        obtain ⟨fn, tmps, assign, body, hyld, hR⟩ := HYJ.out.1 pre ⟨none, .agg #[.int .u8 0, .slice none 0 0, .slice none 0 0], false⟩ _ hj1 (.inl ⟨rfl, rfl, rfl⟩) ⟨[], by rw [HH.out.1, seq_none hne HNO.out]; simp⟩
        dsimp only at hyld
        have HJ1 := Lib.hid hj1
        clear hj1
        gi_wp2
        refine hR.mono ?_
        rintro e W3 (⟨rfl, hj3, hB3⟩ | ⟨rfl, hx3⟩)
        · have HR := Lib.hid hj3
          clear hj3 hB3
          gi_wp2
          refine bodyPost_ret (results_none rfl _ _ _) rfl ?_
          exact ⟨⟨_, rfl⟩, .inl ⟨_, by rw [HH.out.1, seq_none hne HNO.out]; simp, HR.out⟩⟩
        · have HR := Lib.hid hx3
          clear hx3
          gi_wp2
          refine bodyPost_ret (results_none rfl _ _ _) rfl ?_
          exact ⟨⟨_, rfl⟩, .inr ⟨_, HR.out⟩⟩
      · have hlt3 : n3 < m' := by
          have := elem_rest hel
          rw [h3.len, HH.out.2.1.len] at this
          exact this
        have hback : ∀ {A : Option Addr} {n c : Nat} {zs : List UInt8}, Rd wr n₀ A n c zs → Rd w₀ n₀ A n c zs := fun h => h.keep fun p hp => (HH.out.2.2.2.1.cell hp).symm
        have HX := Lib.hid (And.intro hel (And.intro (hback h1) (And.intro (hback h2) (hback h3))))
        clear hc0 hf0 hel h1 h2 h3 hback
        have hj1 := HYJ.out.2.1 _ _ _ HH.out.2.2.1 ((grownBy_below hb2 (some Bn)).alloc (.cells #[.int .u8 (t.toNat : Int), .slice A1 n1 c1, .slice A2 n2 c2] 50))
        obtain ⟨fn, tmps, assign, body', hyld, hR⟩ := HYJ.out.1 pre ⟨some (t, body, raw), .agg #[.int .u8 (t.toNat : Int), .slice A1 n1 c1, .slice A2 n2 c2], true⟩ _ hj1
          (.inr ⟨t, body, raw, A1, n1, c1, A2, n2, c2, rfl, rfl, rfl, HX.out.2.1, HX.out.2.2.1⟩) ⟨Der.seq rest, by rw [HH.out.1, seq_some hne HX.out.1]; simp⟩
        dsimp only at hyld
        have HJ1 := Lib.hid hj1
        clear hj1
        have hB1 := (hB.below hb2 hB.lt).alloc (.cells #[.int .u8 (t.toNat : Int), .slice A1 n1 c1, .slice A2 n2 c2] 50)
        gi_wp2
        refine hR.mono ?_
        rintro e W3 (⟨rfl, hj3, hB3⟩ | ⟨rfl, hx3⟩)
        · have hB4 : Blk W3 Bn 22 #[.slice A' m' c'] := hB3.trans hB1
          obtain ⟨hc4, hf4⟩ := hB4.facts
          have HR := Lib.hid (And.intro hj3 hB4)
          clear hj3 hB3 hB4 hB1
          gi_wp2
          go_roundw
          case rel =>
            exact ⟨pre ++ [⟨some (t, body, raw), .agg #[.int .u8 (t.toNat : Int), .slice A1 n1 c1, .slice A2 n2 c2], true⟩], rest, A3, n3, c3, by rw [HH.out.1, seq_some hne HX.out.1]; simp, HX.out.2.2.2,
              by simpa using HR.out.2.set_ 0 (.slice A3 n3 c3), HYJ.out.2.1 _ _ _ HR.out.1 (grownBy_setCell' _ _ _)⟩
          case measure =>
            have e1 : (W3.setCell ⟨Bn, 0, none⟩ (.slice A3 n3 c3)).cell? ⟨Bn, 0, none⟩ = some (.slice A3 n3 c3) := by
              have := (HR.out.2.set_ 0 (.slice A3 n3 c3)).cell 0
              simpa using this
            have e2 := hB.cell 0
            simp only [e1, e2]
            simpa using hlt3
        · have HR := Lib.hid hx3
          clear hx3 hB1
          gi_wp2
          refine bodyPost_ret (results_none rfl _ _ _) rfl ?_
          exact ⟨⟨_, rfl⟩, .inr ⟨_, HR.out⟩⟩
    · obtain rfl : m' = 0 := by omega
      have hy0 : ys = [] := List.eq_nil_of_length_eq_zero hy.len
      have HH := Lib.hid (And.intro hs (And.intro hy0 hj))
      clear hs hy0 hj hy hY hJ hJx h0
      gi_wp2
      go_end0
      exact ⟨⟨_, rfl⟩, .inl ⟨pre, by rw [HH.out.1, HH.out.2.1, seq_nil]; simp, HH.out.2.2⟩⟩
end Go.Proofs.Ytmnekhliblkibaa
end

section
/- A range over the elements of bytes: the law for whoever ranges over der.each: what the rounds keep, how they go on, how they leave. -/
namespace Go.Proofs.Ytmnekhliblkibaa
open Go.RowKit Go.Shelf
attribute [local go_sem] Oper.semAt_some
set_option maxRecDepth 100000

/-- I abides what the iterator and the loop's own book-keeping do: stores into block Bn; turns of blocks from N on that are no cells; new blocks. -/
def OwnX {β : Type} (Bn N : Nat) (I : β → World → Prop) : Prop :=
  ∀ s X Y row, I s X → X.grownBy Y row → (∀ r, row = some r → r = Bn ∨ (N ≤ r ∧ ∃ o : Obj, X.heap[r]? = some o ∧ o.isCells = false)) → I s Y
theorem OwnX.putObj {β : Type} {Bn N : Nat} {I : β → World → Prop} (h : OwnX Bn N I) {s : β} {W : World} {l : Nat} {o : Obj} (o' : Obj) (hs : I s W) (hN : N ≤ l) (hl : W.heap[l]? = some o) (ho : o.isCells = false) : I s (W.putObj l o') :=
  h s W _ (some l) hs (grownBy_putObj' W l o') fun r e => by cases e; exact .inr ⟨hN, o, hl, ho⟩
theorem OwnX.alloc {β : Type} {Bn N : Nat} {I : β → World → Prop} (h : OwnX Bn N I) {s : β} {W : World} (o : Obj) (hs : I s W) : I s (W.alloc o) :=
  h s W _ none hs (World.grownBy_alloc W o none) fun r e => by cases e
theorem OwnX.and {β : Type} {Bn N : Nat} {I I' : β → World → Prop} (h : OwnX Bn N I) (h' : OwnX Bn N I') : OwnX Bn N (fun s W => I s W ∧ I' s W) :=
  fun s X Y row hs hg hr => ⟨h s X Y row hs.1 hg hr, h' s X Y row hs.2 hg hr⟩
theorem OwnX.pure_ {β : Type} (Bn N : Nat) (p : β → Prop) : OwnX Bn N (fun s (_ : World) => p s) := fun _ _ _ _ hs _ _ => hs
/-- A block of cells of the caller's own, other than the iterator's. -/
theorem OwnX.blk {β : Type} {Bn N g : Nat} (t : TypeId) (cs : β → Array Value) (hne : g ≠ Bn) : OwnX Bn N (fun s W => Blk W g t (cs s)) := by
  intro s X Y row hs hg hr
  refine hs.grown hg fun e => ?_
  rcases hr g e.symm with rfl | ⟨_, o, ho, hc⟩
  · exact hne rfl
  · unfold Blk at hs
    rw [hs] at ho
    cases ho
    cases hc
theorem OwnX.below {β : Type} {Bn N n₀ : Nat} {w₀ : World} (h1 : n₀ ≤ Bn) (h2 : n₀ ≤ N) (h3 : n₀ ≤ w₀.heap.size) : OwnX Bn N (fun (_ : β) W => Below n₀ w₀ W) := by
  intro s X Y row hs hg hr
  refine hs.grown hg (Nat.le_trans h3 hs.size) fun k e => ?_
  rcases hr k e with rfl | ⟨h, _⟩
  · exact h1
  · omega

/-- How a round may be left. -/
def postX {α : Type} (Bn N : Nat) (I : List α → World → Prop) (Ix : Code → List α → World → Prop) (xs : List α) (W : World) : Exit → Act → World → Prop
  | .normal, _, W' => KeepsFrom N W W' ∧ W'.heap[Bn]? = W.heap[Bn]? ∧ I xs W'
  | .ret, _, W' => KeepsFrom N W W' ∧ Ix .ret xs W'
  | .exit id, _, W' => KeepsFrom N W W' ∧ Ix (.exit id) xs W'
  | .goto t, _, W' => KeepsFrom N W W' ∧ Ix (.goto t) xs W'
  | .panic _, _, _ => False
  | .outgrown, _, _ => False

theorem putObj_other {W : World} {l k : Nat} {o : Obj} (h : k ≠ l) : (W.putObj l o).heap[k]? = W.heap[k]? := World.putObj_heap_other h

theorem range_each {n : Nat} {ps : Array Tmp} {assign body : Code} {Q : Exit → Act → World → Prop} {a : Act} {w : World} {g : Operand} (h1 : 3 ≤ n) (Bn : Nat)
    (hg : a.eval g = .func (.func 101) #[] #[.pointer (some ⟨Bn, 0, none⟩)]) (hps : ps.size = 2)
    (n₀ : Nat) (w₀ : World) (A : Option Addr) (m c : Nat) (xs : List UInt8) (hB : Blk w Bn 22 #[.slice A m c]) (hr : Rd w₀ n₀ A m c xs)
    (I : List Item → World → Prop) (Ix : Code → List Item → World → Prop) (hI : OwnX Bn w.heap.size I) (hIx : ∀ c, OwnX Bn w.heap.size (Ix c))
    (hIb : ∀ s X, I s X → Below n₀ w₀ X ∧ n₀ ≤ X.heap.size) (h0 : I [] w)
    (Ax : Item → Act → World → Prop) (hAx : ∀ x a', OwnX Bn w.heap.size (fun (_ : Unit) W => Ax x a' W))
    (hassign : ∀ (l : Nat) (pre : List Item) (x : Item) (W : World) (K : Act → World → Prop), I pre W → x.good n₀ w₀ → (∀ a' W', KeepsFrom w.heap.size W W' → W'.heap[Bn]? = W.heap[Bn]? → I pre W' → Ax x a' W' → K a' W') →
      assign.wpIn (Fence.wide.inRound l) (n - 1 - 1) Try.prog (Exit.then K (fun _ _ _ => False)) { tmps := (ps.zip #[x.v, .bool x.ok]).foldl (fun t (p, v) => t.setIfInBounds p v) a.tmps, defers := [] } W)
    (hbody : ∀ (l : Nat) (pre : List Item) (x : Item) (a' : Act) (W : World), w.heap.size ≤ l → (∃ r, W.heap[l]? = some (.loop r)) → I pre W → Ax x a' W → x.good n₀ w₀ → (∃ tl, Der.seq xs = (pre ++ [x]).map (·.dat) ++ tl) →
      body.wpIn (Fence.wide.inRound l) (n - 1 - 1) Try.prog (postX Bn w.heap.size I Ix (pre ++ [x]) W) a' W)
    (hdone : ∀ (D : Nat) (ys : List Item) (W : World), w.heap.size ≤ D → ys.map (·.dat) = Der.seq xs → I ys W → W.heap[D]? = some (.deferred (some [])) → Q .normal { a with defers := { target := .collected D, args := #[] } :: a.defers } W)
    (hstop : ∀ (D : Nat) (c : Code) (pre : List Item) (W : World), w.heap.size ≤ D → Ix c pre W → W.heap[D]? = some (.deferred (some [])) → c.wpIn Fence.wide n Try.prog Q { a with defers := { target := .collected D, args := #[] } :: a.defers } W) :
    (Code.rangeFunc g ps assign body).wpIn Fence.wide n Try.prog Q a w := by
  refine wpIn_rangeFunc ?_
  intro fn hfn
  obtain ⟨rec, hrec⟩ : ∃ rec : LoopState → Option Code → Loop, rec = fun st pe => { state := st, pending := pe, fn, tmps := a.tmps, params := ps, assign, body, defers := w.heap.size } := ⟨_, rfl⟩
  obtain ⟨W1, hW1⟩ : ∃ W1, (w.alloc (.deferred (some []))).alloc (.loop (rec .ready none)) = W1 := ⟨_, rfl⟩
  have hL1 : W1.heap[w.heap.size + 1]? = some (.loop (rec .ready none)) := by
    rw [← hW1]; have := World.alloc_heap_new (w.alloc (.deferred (some []))) (.loop (rec .ready none)); rwa [World.size_alloc] at this
  have hK1 : W1.heap[w.heap.size]? = some (.deferred (some [])) := by
    rw [← hW1]; exact (Below.heap_alloc _ _ _ (by simp)).trans (World.alloc_heap_new w _)
  have hI1 : I [] W1 := by rw [← hW1]; exact hI.alloc _ (hI.alloc _ h0)
  have hB1 : Blk W1 Bn 22 #[.slice A m c] := by rw [← hW1]; exact (hB.alloc _).alloc _
  have hBlt := hB.lt
  refine ⟨w.heap.size + 1, [{ target := .collected w.heap.size, args := #[] }], W1, { target := .fn (.func 101) #[.pointer (some ⟨Bn, 0, none⟩)], args := #[.func (.yield (w.heap.size + 1)) #[] #[]] }, W1, 101,
    #[.func (.yield (w.heap.size + 1)) #[] #[]] ++ #[.pointer (some ⟨Bn, 0, none⟩)], W1, ?_, ?_, ?_, ?_, fun _ => by omega, ?_⟩
  · rw [← hW1, hrec]; exact run_enterLoop_outer _ _ _ _ _
  · simp only [resolve, hg]
    simp [go_sem]
  · intro f' _; trivial
  · simp [invoke, go_sem]
  · refine (each1_in (n - 1) (by omega) (w.heap.size + 1) Bn n₀ w₀ A m c xs hr
      (fun pre W => I pre W ∧ W.heap[w.heap.size + 1]? = some (.loop (rec .ready none)) ∧ W.heap[w.heap.size]? = some (.deferred (some [])))
      (fun pre W => ∃ c, Ix c pre W ∧ W.heap[w.heap.size + 1]? = some (.loop (rec .done (some c))) ∧ W.heap[w.heap.size]? = some (.deferred (some [])))
      ?hJ ?hJx ?hJb ?round W1 hB1 ⟨hI1, hL1, hK1⟩).mono ?behind
    case hJ =>
      rintro s X Y ⟨hi, hl, hk⟩ hgr
      exact ⟨hI s X Y _ hi hgr (fun r e => .inl (by injection e with e; exact e.symm)), (hgr.block _ (Array.getElem?_eq_some_iff.1 hl).1 (by simp; omega)).trans hl, (hgr.block _ (Array.getElem?_eq_some_iff.1 hk).1 (by simp; omega)).trans hk⟩
    case hJx =>
      rintro s X Y ⟨c, hi, hl, hk⟩ hgr
      exact ⟨c, hIx c s X Y _ hi hgr (fun r e => .inl (by injection e with e; exact e.symm)), (hgr.block _ (Array.getElem?_eq_some_iff.1 hl).1 (by simp; omega)).trans hl, (hgr.block _ (Array.getElem?_eq_some_iff.1 hk).1 (by simp; omega)).trans hk⟩
    case hJb => exact fun s X h => hIb s X h.1
    case round =>
      rintro pre x W ⟨hi, hl, hk⟩ hgood htl
      have hlt : w.heap.size + 1 < W.heap.size := (Array.getElem?_eq_some_iff.1 hl).1
      have hy := run_yield (P := Try.prog) (args := #[x.v, .bool x.ok]) hl (by rw [hrec]; exact hps.symm)
      rw [hrec] at hy
      refine ⟨fn, _, assign, body, hy, roundIn_of_wpIn hfn (hassign _ pre x W _ hi hgood ?_)⟩
      clear hy
      intro a' Wa hkfa hBa hia hax
      have hla := hkfa.same _ _ (by omega) hl rfl
      have hka := hkfa.same _ _ (Nat.le_refl _) hk rfl
      have hlta : w.heap.size + 1 < Wa.heap.size := (Array.getElem?_eq_some_iff.1 hla).1
      refine ⟨_, run_beginRound hla (by rw [hrec]), ?_⟩
      have hl2 : (Wa.putObj (w.heap.size + 1) (.loop { rec .ready none with state := .busy })).heap[w.heap.size + 1]? = some (.loop { rec .ready none with state := .busy }) := World.putObj_heap_same hlta
      have hk2 : (Wa.putObj (w.heap.size + 1) (.loop { rec .ready none with state := .busy })).heap[w.heap.size]? = some (.deferred (some [])) := (putObj_other (by omega)).trans hka
      refine wpIn_mono (hbody _ pre x a' _ (by omega) ⟨_, hl2⟩ (hI.putObj _ hia (by omega) hla rfl) ((hAx x a').putObj (s := ()) _ hax (by omega) hla rfl) hgood htl) ?_
      have fin : ∀ (jump : Option Code) (W3 : World), KeepsFrom w.heap.size (Wa.putObj (w.heap.size + 1) (.loop { rec .ready none with state := .busy })) W3 →
          (Instr.endRound (w.heap.size + 1) jump).run Try.prog W3 = .ok (.bool jump.isNone) (W3.putObj (w.heap.size + 1) (.loop (rec (if jump.isNone then .ready else .done) jump))) ∧
          W3.heap[w.heap.size + 1]? = some (.loop { rec .ready none with state := .busy }) ∧
          (W3.putObj (w.heap.size + 1) (.loop (rec (if jump.isNone then .ready else .done) jump))).heap[w.heap.size + 1]? = some (.loop (rec (if jump.isNone then .ready else .done) jump)) ∧
          (W3.putObj (w.heap.size + 1) (.loop (rec (if jump.isNone then .ready else .done) jump))).heap[w.heap.size]? = some (.deferred (some [])) := fun jump W3 hk3 => by
        have hl3 := hk3.same _ _ (by omega) hl2 rfl
        have := run_endRound (P := Try.prog) jump hl3
        rw [hrec] at this ⊢
        exact ⟨this, by rw [hrec] at hl3; exact hl3, World.putObj_heap_same (Array.getElem?_eq_some_iff.1 hl3).1, (putObj_other (by omega)).trans (hk3.same _ _ (Nat.le_refl _) hk2 rfl)⟩
      rintro e a3 W3 hp
      cases e with
      | normal =>
        obtain ⟨hk3, hB3, hi3⟩ := hp
        obtain ⟨hr3, hl3, hl4, hk4⟩ := fin none W3 hk3
        refine ⟨_, _, hr3, .inl ⟨rfl, ⟨hI.putObj _ hi3 (by omega) hl3 rfl, hl4, hk4⟩, ?_⟩⟩
        rw [putObj_other (by omega), hB3, putObj_other (by omega), hBa]
      | ret =>
        obtain ⟨hk3, hi3⟩ := hp
        obtain ⟨hr3, hl3, hl4, hk4⟩ := fin (some .ret) W3 hk3
        exact ⟨_, _, hr3, .inr ⟨rfl, .ret, (hIx _).putObj _ hi3 (by omega) hl3 rfl, hl4, hk4⟩⟩
      | exit id =>
        obtain ⟨hk3, hi3⟩ := hp
        obtain ⟨hr3, hl3, hl4, hk4⟩ := fin (some (.exit id)) W3 hk3
        exact ⟨_, _, hr3, .inr ⟨rfl, .exit id, (hIx _).putObj _ hi3 (by omega) hl3 rfl, hl4, hk4⟩⟩
      | goto t =>
        obtain ⟨hk3, hi3⟩ := hp
        obtain ⟨hr3, hl3, hl4, hk4⟩ := fin (some (.goto t)) W3 hk3
        exact ⟨_, _, hr3, .inr ⟨rfl, .goto t, (hIx _).putObj _ hi3 (by omega) hl3 rfl, hl4, hk4⟩⟩
      | panic ch => exact hp.elim
      | outgrown => exact hp.elim
    case behind =>
      rintro e W2 ⟨⟨v, rfl⟩, (⟨ys, hS, hi, hl, hk⟩ | ⟨pre, c', hi, hl, hk⟩)⟩
      · exact ⟨none, _, by have := run_endLoop (P := Try.prog) hl (by rw [hrec]; simp); rw [hrec] at this; exact this, hdone _ ys _ (Nat.le_refl _) hS (hI.putObj _ hi (by omega) hl rfl) ((putObj_other (by omega)).trans hk)⟩
      · exact ⟨some c', _, by have := run_endLoop (P := Try.prog) hl (by rw [hrec]; simp); rw [hrec] at this; exact this, hstop _ c' pre _ (Nat.le_refl _) ((hIx c').putObj _ hi (by omega) hl rfl) ((putObj_other (by omega)).trans hk)⟩
end Go.Proofs.Ytmnekhliblkibaa
end

section
/- The contracts of der.each, der.through, der.Check. -/
namespace Go.Proofs.Ytmnekhliblkibaa
open Go.RowKit Go.Shelf
attribute [local go_sem] Oper.semAt_some
set_option maxRecDepth 100000

/-- An element that is not gone through further. -/
def Der.leaf (t : UInt8) (b : List UInt8) : Bool := t.toNat / 32 % 2 == 0 || b.isEmpty
/-- The first error of elements, by f. -/
def Der.firstBad (f : UInt8 → List UInt8 → Nat) : List (Option (UInt8 × List UInt8 × List UInt8)) → Nat
  | [] => 0
  | none :: _ => 9
  | some (t, b, _) :: r => if f t b = 0 then Der.firstBad f r else f t b
/-- What through answers where k levels more may be gone through. -/
def Der.thr : Nat → UInt8 → List UInt8 → Nat
  | 0, t, b => if Der.leaf t b then 0 else 10
  | k + 1, t, b => if Der.leaf t b then 0 else if (Der.seq b).any (·.isNone) then 9 else Der.firstBad (Der.thr k) (Der.seq b)

def EachPost (A : Option Addr) (n c : Nat) (w : World) (e : Ending) (w' : World) : Prop :=
  e = .returned (.func (.func 101) #[] #[.pointer (some ⟨w.heap.size, 0, none⟩)]) ∧ Below w.heap.size w w' ∧ Blk w' w.heap.size 22 #[.slice A n c] ∧ w'.heap.size = w.heap.size + 1
theorem each_any (A : Option Addr) (n c : Nat) (w : World) : Calls Try.prog 84 #[.slice A n c] w (EachPost A n c w) := by
  have hmf : ∀ (fn : Fn) (first cap : Array Value) (w : World), (Instr.makeFunc fn first cap).run Try.prog w = .ok (.func fn first cap) w := fun _ _ _ _ => rfl
  go_enter Try.func84, Try.ntmps84
  go_wp2
  go_ret
  exact ⟨rfl, by (repeat (first | exact Below.refl _ _ | assumption | (refine Below.setCell ?_ (by first | omega | (simp; done) | (simp; omega)) _) | (refine Below.alloc ?_ (by first | omega | (simp; done) | (simp; omega)) _) | (refine below_drewN ?_ _) | (refine Below.drew ?_))), Blk.new _ _ _, by simp⟩

theorem and32 (t : UInt8) : bits .and .u8 (t.toNat : Int) 32 = ((t.toNat / 32 % 2 * 32 : Nat) : Int) := by
  rw [show (32 : Int) = ((32 : Nat) : Int) from rfl, u8_and_nat _ _ t.toNat_lt (by omega)]
  congr 1
  have h : ∀ x : Fin 256, x.val &&& 32 = x.val / 32 % 2 * 32 := by decide
  exact h ⟨t.toNat, t.toNat_lt⟩

def ThrPost (v : Nat) (w : World) (e : Ending) (w' : World) : Prop := e = .returned (.int .i64 (v : Int)) ∧ Below w.heap.size w w'

theorem thr_mk {v V : Nat} (h : v = V) {w w' : World} (hb : Below w.heap.size w w') : ThrPost V w (.returned (.int .i64 (v : Int))) w' := by subst h; exact ⟨rfl, hb⟩

theorem through_leaf (t : UInt8) (A1 A2 : Option Addr) (n1 c1 n2 c2 : Nat) (d : Int) (body : List UInt8) (B : Nat) (w : World) (h1 : Rd w B A1 n1 c1 body) (hl : Der.leaf t body = true) :
    Calls Try.prog 60 #[.agg #[.int .u8 (t.toNat : Int), .slice A1 n1 c1, .slice A2 n2 c2], .int .i64 d] w (ThrPost 0 w) := by
  have hn := h1.len
  clear h1
  by_cases ht : t.toNat / 32 % 2 = 0
  · have e1 : (bits .and .u8 (t.toNat : Int) 32 == 0) = true := by rw [and32, ht]; rfl
    clear hl hn
    go_enter Try.func60, Try.ntmps60
    go_wp2
    exact bodyPost_ret (v := .int .i64 0) (by simp [results, Try.results60, go_sem]) rfl ⟨rfl, by (repeat (first | exact Below.refl _ _ | assumption | (refine Below.setCell ?_ (by first | omega | (simp; done) | (simp; omega)) _) | (refine Below.alloc ?_ (by first | omega | (simp; done) | (simp; omega)) _) | (refine below_drewN ?_ _) | (refine Below.drew ?_)))⟩
  · have e1 : (bits .and .u8 (t.toNat : Int) 32 == 0) = false := by rw [and32]; simp; omega
    have h0 : body = [] := by simpa [Der.leaf, ht] using hl
    subst h0
    obtain rfl : n1 = 0 := by simpa using hn.symm
    clear hl hn
    go_enter Try.func60, Try.ntmps60
    go_wp2
    exact bodyPost_ret (v := .int .i64 0) (by simp [results, Try.results60, go_sem]) rfl ⟨rfl, by (repeat (first | exact Below.refl _ _ | assumption | (refine Below.setCell ?_ (by first | omega | (simp; done) | (simp; omega)) _) | (refine Below.alloc ?_ (by first | omega | (simp; done) | (simp; omega)) _) | (refine below_drewN ?_ _) | (refine Below.drew ?_)))⟩

theorem through_deep (t : UInt8) (A1 A2 : Option Addr) (n1 c1 n2 c2 : Nat) (body : List UInt8) (B : Nat) (w : World) (h1 : Rd w B A1 n1 c1 body) (hl : Der.leaf t body = false) :
    Calls Try.prog 60 #[.agg #[.int .u8 (t.toNat : Int), .slice A1 n1 c1, .slice A2 n2 c2], .int .i64 16] w (ThrPost 10 w) := by
  have hn := h1.len
  clear h1
  simp only [Der.leaf, Bool.or_eq_false_iff, beq_eq_false_iff_ne, List.isEmpty_eq_false_iff] at hl
  have e1 : (bits .and .u8 (t.toNat : Int) 32 == 0) = false := by rw [and32]; simp; omega
  have hpos : 0 < body.length := List.length_pos_iff.2 hl.2
  have e2 : ((n1 : Int) == 0) = false := by simp; omega
  clear hl hn hpos
  go_enter Try.func60, Try.ntmps60
  go_wp2
  exact bodyPost_ret (v := .int .i64 10) (by simp [results, Try.results60, go_sem]) rfl ⟨rfl, by (repeat (first | exact Below.refl _ _ | assumption | (refine Below.setCell ?_ (by first | omega | (simp; done) | (simp; omega)) _) | (refine Below.alloc ?_ (by first | omega | (simp; done) | (simp; omega)) _) | (refine below_drewN ?_ _) | (refine Below.drew ?_)))⟩

/-- What through's rounds keep: its own three variables, and all that was there. -/
def ThrI (vs : Array Value) (ev d : Int) (w : World) (W : World) : Prop :=
  Below w.heap.size w W ∧ Blk W w.heap.size 50 vs ∧ Blk W (w.heap.size + 1) 3 #[.int .i64 d] ∧ Blk W (w.heap.size + 2) 33 #[.int .i64 ev]
theorem ThrI.own {β : Type} (vs : Array Value) (ev d : Int) (w : World) (Bn N : Nat) (h1 : w.heap.size + 3 ≤ Bn) (h2 : w.heap.size ≤ N) : OwnX Bn N (fun (_ : β) W => ThrI vs ev d w W) :=
  (OwnX.below (by omega) h2 (Nat.le_refl _)).and ((OwnX.blk _ _ (by omega)).and ((OwnX.blk _ _ (by omega)).and (OwnX.blk _ _ (by omega))))
theorem ThrI.store {vs : Array Value} {ev ev' d : Int} {w W : World} (h : ThrI vs ev d w W) : ThrI vs ev' d w (W.setCell ⟨w.heap.size + 2, 0, none⟩ (.int .i64 ev')) :=
  ⟨h.1.setCell (by simp) _, h.2.1.far (by simp) _, h.2.2.1.far (by simp) _, by simpa using h.2.2.2.set_ 0 (.int .i64 ev')⟩
theorem ThrI.later {vs : Array Value} {ev d : Int} {w W W' : World} (h : ThrI vs ev d w W) (hb : Below W.heap.size W W') : ThrI vs ev d w W' :=
  ⟨h.1.trans (hb.mono h.1.size), h.2.1.below hb h.2.1.lt, h.2.2.1.below hb h.2.2.1.lt, h.2.2.2.below hb h.2.2.2.lt⟩
theorem ThrI.put {vs : Array Value} {ev d : Int} {w W : World} (h : ThrI vs ev d w W) {D : Nat} {o : Obj} (o' : Obj) (hD : W.heap[D]? = some o) (ho : o.isCells = false) (hge : w.heap.size ≤ D) : ThrI vs ev d w (W.putObj D o') := by
  have hg := grownBy_putObj' W D o'
  have hlt := (Array.getElem?_eq_some_iff.1 hD).1
  have key : ∀ {g : Nat} {t : TypeId} {cs : Array Value}, Blk W g t cs → Blk (W.putObj D o') g t cs := fun hb => hb.grown hg (fun e => by
    injection e with e; subst e; unfold Blk at hb; rw [hb] at hD; cases hD; cases ho)
  exact ⟨h.1.grown hg h.1.size (fun k e => by injection e with e; omega), key h.2.1, key h.2.2.1, key h.2.2.2⟩
theorem OwnX.at_ {β : Type} {Bn N D : Nat} (o : Obj) (hD : D < N) (hne : D ≠ Bn) : OwnX Bn N (fun (_ : β) W => W.heap[D]? = some o) := by
  intro s X Y row hs hg hr
  refine (hg.block D (Array.getElem?_eq_some_iff.1 hs).1 fun e => ?_).trans hs
  rcases hr D e.symm with e | ⟨h, _⟩
  · exact hne e
  · omega

theorem OwnX.size {β : Type} (Bn N c : Nat) : OwnX Bn N (fun (_ : β) W => c ≤ W.heap.size) := fun _ _ _ _ hs hg _ => Nat.le_trans hs hg.size
theorem keepsFrom_below {N : Nat} {W W' : World} (h : Below W.heap.size W W') : KeepsFrom N W W' := ⟨h.size, fun k _ _ hk _ => (h.block k (Array.getElem?_eq_some_iff.1 hk).1).trans hk⟩

theorem any_none_of_ok {n₀ : Nat} {w₀ : World} {ys : List Item} (h : ∀ x ∈ ys, Item.ok x = true) (hg : ∀ x ∈ ys, Item.good n₀ w₀ x) : (ys.map (·.dat)).any (·.isNone) = false := by
  rw [List.any_eq_false]
  intro d hd
  obtain ⟨x, hx, rfl⟩ := List.mem_map.1 hd
  rcases hg x hx with ⟨_, _, e⟩ | ⟨t, b, r, _, _, _, _, _, _, e, _⟩
  · rw [h x hx] at e; cases e
  · simp [e]

/-- The error that an item's element gives. -/
def Item.bad (f : UInt8 → List UInt8 → Nat) (x : Item) (v : Nat) : Prop := ∃ t b r, x.dat = some (t, b, r) ∧ f t b = v
theorem firstBad_all {f : UInt8 → List UInt8 → Nat} : ∀ {l : List Item}, (∀ x ∈ l, x.bad f 0) → Der.firstBad f (l.map (·.dat)) = 0
  | [], _ => rfl
  | x :: l, h => by
    obtain ⟨t, b, r, e, hz⟩ := h x (by simp)
    simp only [List.map_cons, e, Der.firstBad, hz, if_true]
    exact firstBad_all fun y hy => h y (by simp [hy])
theorem firstBad_hit {f : UInt8 → List UInt8 → Nat} {x : Item} {v : Nat} (hx : x.bad f v) (hv : v ≠ 0) (tl : List (Option (UInt8 × List UInt8 × List UInt8))) :
    ∀ {l : List Item}, (∀ x ∈ l, x.bad f 0) → Der.firstBad f ((l ++ [x]).map (·.dat) ++ tl) = v
  | [], _ => by
    obtain ⟨t, b, r, e, hz⟩ := hx
    simp only [List.nil_append, List.map_cons, List.map_nil, e, List.cons_append, Der.firstBad, hz, if_neg hv]
  | y :: l, h => by
    obtain ⟨t, b, r, e, hz⟩ := h y (by simp)
    have := firstBad_hit hx hv tl (l := l) fun z hz => h z (by simp [hz])
    simp only [List.cons_append, List.map_cons, e, Der.firstBad, hz, if_true]
    exact this

/-- What the second loop's frame bears: the element's box. -/
def BoxAt (w : World) (Bn : Nat) (x : Item) (Bx : Nat) (W : World) : Prop :=
  w.heap.size + 3 ≤ Bx ∧ Bx ≠ Bn ∧ ∃ cs, x.v = .agg cs ∧ Blk W Bx 50 cs
theorem BoxAt.own {β : Type} (w : World) (Bn N : Nat) (x : Item) (Bx : Nat) : OwnX Bn N (fun (_ : β) W => BoxAt w Bn x Bx W) := by
  rintro s X Y row ⟨h1, h2, cs, e, hb⟩ hg hr
  exact ⟨h1, h2, cs, e, OwnX.blk (β := Unit) 50 (fun _ => cs) h2 () X Y row hb hg hr⟩

set_option maxHeartbeats 2000000 in
theorem through_any (k : Nat) : ∀ (d : Nat), d + k = 16 → ∀ (t : UInt8) (A1 A2 : Option Addr) (n1 c1 n2 c2 : Nat) (body : List UInt8) (w : World), Rd w w.heap.size A1 n1 c1 body →
    Calls Try.prog 60 #[.agg #[.int .u8 (t.toNat : Int), .slice A1 n1 c1, .slice A2 n2 c2], .int .i64 (d : Int)] w (ThrPost (Der.thr k t body) w) := by
  induction k with
  | zero =>
    intro d hd t A1 A2 n1 c1 n2 c2 body w h1
    obtain rfl : d = 16 := by omega
    by_cases hl : Der.leaf t body = true
    · rw [Der.thr, if_pos hl]; exact through_leaf t A1 A2 n1 c1 n2 c2 _ body _ w h1 hl
    · rw [Der.thr, if_neg hl]; exact through_deep t A1 A2 n1 c1 n2 c2 body _ w h1 (by simpa using hl)
  | succ k ih =>
    intro d hd t A1 A2 n1 c1 n2 c2 body w h1
    by_cases hl : Der.leaf t body = true
    · rw [Der.thr, if_pos hl]; exact through_leaf t A1 A2 n1 c1 n2 c2 _ body _ w h1 hl
    rw [Der.thr, if_neg hl]
    obtain ⟨V, hV⟩ : ∃ V, (if (Der.seq body).any (·.isNone) then 9 else Der.firstBad (Der.thr k) (Der.seq body)) = V := ⟨_, rfl⟩
    rw [hV]
    have HV := Lib.hid hV
    clear hV
    simp only [Der.leaf, Bool.or_eq_true, beq_iff_eq, List.isEmpty_iff, not_or] at hl
    have hn := h1.len
    have e1 : (bits .and .u8 (t.toNat : Int) 32 == 0) = false := by rw [and32]; simp; omega
    have hpos : 0 < body.length := List.length_pos_iff.2 hl.2
    have e2 : ((n1 : Int) == 0) = false := by simp; omega
    have e3 : ((d : Int) == 16) = false := by simp; omega
    have HIH := Lib.hid ih
    clear hl hn hpos ih
    refine (callsIn_wide (n := 5)).1 ?_
    refine callsIn_of_wp_marks Try.func60 rfl trivial ?_ rfl
    simp only [Try.ntmps60, List.size_toArray, List.length_cons, List.length_nil, Nat.reduceAdd, Nat.reduceSub, Array.replicate_succ, Array.replicate_zero, List.push_toArray, List.append_toArray, List.nil_append, List.cons_append]
    have hB0 := ((Blk.new w 50 #[.int .u8 (t.toNat : Int), .slice A1 n1 c1, .slice A2 n2 c2]).alloc (.cells #[.int .i64 (d : Int)] 3)).alloc (.cells #[.int .i64 0] 33)
    have hB1 := (Blk.new (w.alloc (.cells #[.int .u8 (t.toNat : Int), .slice A1 n1 c1, .slice A2 n2 c2] 50)) 3 #[.int .i64 (d : Int)]).alloc (.cells #[.int .i64 0] 33)
    have hB2 := Blk.new ((w.alloc (.cells #[.int .u8 (t.toNat : Int), .slice A1 n1 c1, .slice A2 n2 c2] 50)).alloc (.cells #[.int .i64 (d : Int)] 3)) 33 #[.int .i64 0]
    simp only [World.size_alloc] at hB1 hB2
    gi_wp2_with fail
    refine ⟨trivial, (callsIn_wide.2 (each_any A1 n1 c1 _)).mono ?_⟩
    rintro e w1 ⟨rfl, hb1, hBn, hz1⟩
    simp only [World.size_alloc] at hb1 hBn hz1
    have hbw1 : Below w.heap.size w w1 := Below.trans (by (repeat (first | exact Below.refl _ _ | assumption | (refine Below.setCell ?_ (by first | omega | (simp; done) | (simp; omega)) _) | (refine Below.alloc ?_ (by first | omega | (simp; done) | (simp; omega)) _) | (refine below_drewN ?_ _) | (refine Below.drew ?_)))) (hb1.mono (by omega))
    have hB0' := hB0.below hb1 (by omega)
    have hB1' := hB1.below hb1 (by omega)
    have hB2' := hB2.below hb1 (by omega)
    clear hb1 hB0 hB1 hB2
    obtain ⟨vs, hvs⟩ : ∃ vs : Array Value, vs = #[.int .u8 (t.toNat : Int), .slice A1 n1 c1, .slice A2 n2 c2] := ⟨_, rfl⟩
    have hI0 : ThrI vs 0 d w w1 := ⟨hbw1, by rw [hvs]; exact hB0', hB1', hB2'⟩
    have hs1 : w.heap.size + 4 ≤ w1.heap.size := by omega
    have HN := Lib.hid (And.intro hvs hBn)
    clear hB1' hB2' hBn hz1 hB0' hvs
    gi_wp2_with fail
    refine range_each (by omega) (w.heap.size + 3) rfl rfl w.heap.size w A1 n1 c1 body HN.out.2 h1
      (fun pre W => (∀ x ∈ pre, Item.ok x = true ∧ Item.good w.heap.size w x) ∧ ThrI vs 0 d w W) (fun c pre W => (c = .ret ∧ ∃ x ∈ pre, Item.ok x = false ∧ Item.good w.heap.size w x ∧ x.dat ∈ Der.seq body) ∧ ThrI vs 9 d w W)
      ((OwnX.pure_ _ _ _).and (ThrI.own _ _ _ _ _ _ (by omega) (by omega))) (fun c => (OwnX.pure_ _ _ _).and (ThrI.own _ _ _ _ _ _ (by omega) (by omega)))
      (fun s X h => ⟨h.2.1, h.2.1.size⟩) ⟨(fun x hx => by cases hx), hI0⟩
      (fun x a' _ => ∃ u0 u1 u5 u7 u8 u9 u10 u11 u12 u13 u14 u15 u16 u17 u18 u19 u20 u21 u22 u23 u24 u25 u26 u27 u28 u29 u30 u31 u32 u33 u34 u35 u36 u37 u38 u39 : Value, a' = { tmps := #[u0, u1, .pointer (some ⟨w.heap.size, 0, none⟩), .pointer (some ⟨w.heap.size + 1, 0, none⟩), .pointer (some ⟨w.heap.size + 2, 0, none⟩), u5, .bool x.ok, u7, u8, u9, u10, u11, u12, u13, u14, u15, u16, u17, u18, u19, u20, u21, u22, u23, u24, u25, u26, u27, u28, u29, u30, u31, u32, u33, u34, u35, u36, u37, u38, u39], defers := [] }) (fun x a' => OwnX.pure_ _ _ _) ?assign ?body ?done ?stop
    case assign =>
      intro l pre x W K hi hg hK
      gi_wp2
      exact hK _ _ (KeepsFrom.refl _ _) rfl hi ⟨_, _, _, _, _, _, _, _, _, _, _, _, _, _, _, _, _, _, _, _, _, _, _, _, _, _, _, _, _, _, _, _, _, _, _, _, rfl⟩
    case body =>
      rintro l pre x a' W hlN ⟨r, hr⟩ ⟨hok, hi⟩ ⟨u0, u1, u5, u7, u8, u9, u10, u11, u12, u13, u14, u15, u16, u17, u18, u19, u20, u21, u22, u23, u24, u25, u26, u27, u28, u29, u30, u31, u32, u33, u34, u35, u36, u37, u38, u39, rfl⟩ hg htl
      cases hxo : x.ok with
      | true =>
        have HO := Lib.hid (And.intro hok (And.intro hxo (And.intro hg hi)))
        clear hok hxo hg hi htl hr
        gi_wp2
        refine ⟨KeepsFrom.refl _ _, rfl, fun y hy => ?_, HO.out.2.2.2⟩
        rcases List.mem_append.1 hy with hy | hy
        · exact HO.out.1 y hy
        · obtain rfl := List.mem_singleton.1 hy
          exact ⟨HO.out.2.1, HO.out.2.2.1⟩
      | false =>
        obtain ⟨hc2, hf2⟩ := hi.2.2.2.facts
        have HO := Lib.hid (And.intro htl (And.intro hxo (And.intro hg hi)))
        clear hok hxo hg hi htl hr
        gi_wp2
        refine ⟨(KeepsOthers.setCell _ _ _).from _, ⟨rfl, x, by simp, HO.out.2.1, HO.out.2.2.1, ?_⟩, HO.out.2.2.2.store⟩
        obtain ⟨tl, htl⟩ := HO.out.1
        rw [htl]
        simp
    case stop =>
      rintro D c pre W hD ⟨⟨rfl, x, hx, hxo, hg, hxs⟩, hi⟩ hK
      have hp := hi.put (.deferred none) hK rfl (by omega)
      obtain ⟨hc2, hf2⟩ := hp.2.2.2.facts
      have hany : (Der.seq body).any (·.isNone) = true := by
        rw [List.any_eq_true]
        refine ⟨_, hxs, ?_⟩
        rcases hg with ⟨e, _⟩ | ⟨_, _, _, _, _, _, _, _, _, _, _, e, _⟩
        · rw [e]; rfl
        · rw [hxo] at e; cases e
      have HP := Lib.hid (And.intro hp (And.intro hany hK))
      clear hp hany hK hi
      gi_wp2
      refine ⟨by simp, .inl ⟨_, _, rfl, run_takeDeferred HP.out.2.2, ?_⟩⟩
      refine ⟨.int .i64 9, by simp [results, Try.results60, go_sem, hc2], ?_⟩
      have hv := HV.out
      rw [if_pos HP.out.2.1] at hv
      exact thr_mk (v := 9) hv HP.out.1.1
    case done =>
      rintro D ys W hD hys ⟨hok, hi⟩ hK
      have hany : (Der.seq body).any (·.isNone) = false := by
        rw [← hys]
        exact any_none_of_ok (fun x hx => (hok x hx).1) (fun x hx => (hok x hx).2)
      obtain ⟨hc0, hf0⟩ := hi.2.1.facts
      have hDlt := (Array.getElem?_eq_some_iff.1 hK).1
      have HW := Lib.hid (And.intro hi (And.intro hK (And.intro hany HN.out.1)))
      have hc01 : W.cell? ⟨w.heap.size, 1, none⟩ = some (.slice A1 n1 c1) := by rw [hc0, HN.out.1]; rfl
      have hv := HV.out
      rw [if_neg (by rw [hany]; simp)] at hv
      have HV2 := Lib.hid (And.intro hv hys)
      clear hi hK hany hok hys hc0 hv
      gi_wp2_with fail
      refine ⟨trivial, (callsIn_wide.2 (each_any A1 n1 c1 _)).mono ?_⟩
      rintro e w3 ⟨rfl, hb3, hBn3, hz3⟩
      have hi3 := HW.out.1.later hb3
      have hK3 : w3.heap[D]? = some (.deferred (some [])) := (hb3.block D hDlt).trans HW.out.2.1
      have HN3 := Lib.hid (And.intro hBn3 hK3)
      have hs3 : w.heap.size + 4 ≤ W.heap.size := by omega
      have hsz3 : w.heap.size + 4 ≤ w3.heap.size := by omega
      have hDl3 : D < w3.heap.size := by omega
      have hDne : D ≠ W.heap.size := by omega
      have hz3' : W.heap.size + 1 ≤ w3.heap.size := by omega
      clear hBn3 hK3 hz3 hb3 hc01 hf0
      gi_wp2_with fail
      refine range_each (by omega) W.heap.size rfl rfl w.heap.size w A1 n1 c1 body HN3.out.1 h1
        (fun pre W' => (∀ x ∈ pre, x.bad (Der.thr k) 0) ∧ ThrI vs 0 d w W' ∧ W'.heap[D]? = some (.deferred (some [])) ∧ W.heap.size + 1 ≤ W'.heap.size)
        (fun c pre W' => (c = .ret ∧ ∃ v, v ≠ 0 ∧ Der.firstBad (Der.thr k) (Der.seq body) = v ∧ ThrI vs v d w W') ∧ W'.heap[D]? = some (.deferred (some [])))
        ((OwnX.pure_ _ _ _).and ((ThrI.own _ _ _ _ _ _ (by omega) (by omega)).and ((OwnX.at_ _ (by omega) hDne).and (OwnX.size _ _ _)))) ?hIx
        (fun s X h => ⟨h.2.1.1, h.2.1.1.size⟩) ⟨(fun x hx => by cases hx), hi3, HN3.out.2, hz3'⟩
        (fun x a' W' => ∃ Bx, (∃ u0 u1 u5 u6 u8 u9 u10 u11 u12 u13 u14 u15 u16 u17 u18 u19 u20 u21 u22 u23 u24 u25 u26 u27 u28 u29 u30 u31 u32 u33 u34 u35 u36 u37 u38 u39 : Value, a' = { tmps := #[u0, u1, .pointer (some ⟨w.heap.size, 0, none⟩), .pointer (some ⟨w.heap.size + 1, 0, none⟩), .pointer (some ⟨w.heap.size + 2, 0, none⟩), u5, u6, .pointer (some ⟨Bx, 0, none⟩), u8, u9, u10, u11, u12, u13, u14, u15, u16, u17, u18, u19, u20, u21, u22, u23, u24, u25, u26, u27, u28, u29, u30, u31, u32, u33, u34, u35, u36, u37, u38, u39], defers := [] }) ∧ BoxAt w W.heap.size x Bx W') ?hAx ?assign2 ?body2 ?done2 ?stop2
      case hIx =>
        rintro c s X Y row ⟨⟨hc, v, hv, hf, hI⟩, hat⟩ hg hr
        exact ⟨⟨hc, v, hv, hf, ThrI.own (β := Unit) vs v d w _ w3.heap.size (by omega) (by omega) () X Y row hI hg hr⟩, OwnX.at_ (β := Unit) _ (N := w3.heap.size) hDl3 hDne () X Y row hat hg hr⟩
      case hAx =>
        rintro x a' s X Y row ⟨Bx, hx, hb⟩ hg hr
        exact ⟨Bx, hx, BoxAt.own (β := Unit) w _ w3.heap.size x Bx () X Y row hb hg hr⟩
      case assign2 =>
        intro l pre x W' K hi hg hK'
        have hfin : ∀ cs, x.v = .agg cs → KeepsFrom w3.heap.size W' (W'.alloc (.cells cs 50)) ∧ (W'.alloc (.cells cs 50)).heap[W.heap.size]? = W'.heap[W.heap.size]? ∧
            ((∀ x ∈ pre, x.bad (Der.thr k) 0) ∧ ThrI vs 0 d w (W'.alloc (.cells cs 50)) ∧ (W'.alloc (.cells cs 50)).heap[D]? = some (.deferred (some [])) ∧ W.heap.size + 1 ≤ (W'.alloc (.cells cs 50)).heap.size) ∧
            BoxAt w W.heap.size x W'.heap.size (W'.alloc (.cells cs 50)) := by
          intro cs hcs
          obtain ⟨hz, hI, hD', hsz⟩ := hi
          exact ⟨(KeepsOthers.alloc _ _).from _, Below.heap_alloc _ _ _ (by omega), ⟨hz, hI.later ((Below.refl _ _).alloc (Nat.le_refl _) _), (Below.heap_alloc _ _ _ (Array.getElem?_eq_some_iff.1 hD').1).trans hD', by simp; omega⟩,
            by omega, by omega, cs, hcs, Blk.new _ _ _⟩
        rcases hg with ⟨_, hxv, _⟩ | ⟨t', b', r', A4, n4, c4, A5, n5, c5, _, hxv, _, _, _⟩
        · have HF := Lib.hid (hfin _ hxv)
          rw [hxv]
          clear hfin hxv hi
          gi_wp2
          exact hK' _ _ HF.out.1 HF.out.2.1 HF.out.2.2.1 ⟨W'.heap.size, ⟨_, _, _, _, _, _, _, _, _, _, _, _, _, _, _, _, _, _, _, _, _, _, _, _, _, _, _, _, _, _, _, _, _, _, _, _, rfl⟩, HF.out.2.2.2⟩
        · have HF := Lib.hid (hfin _ hxv)
          rw [hxv]
          clear hfin hxv hi
          gi_wp2
          exact hK' _ _ HF.out.1 HF.out.2.1 HF.out.2.2.1 ⟨W'.heap.size, ⟨_, _, _, _, _, _, _, _, _, _, _, _, _, _, _, _, _, _, _, _, _, _, _, _, _, _, _, _, _, _, _, _, _, _, _, _, rfl⟩, HF.out.2.2.2⟩
      case body2 =>
        rintro l pre x a' W' hlN ⟨r, hr⟩ ⟨hz, hi, hK, hsz⟩ ⟨Bx, ⟨u0, u1, u5, u6, u8, u9, u10, u11, u12, u13, u14, u15, u16, u17, u18, u19, u20, u21, u22, u23, u24, u25, u26, u27, u28, u29, u30, u31, u32, u33, u34, u35, u36, u37, u38, u39, rfl⟩, hBx1, hBx2, cs, hcs, hBlk⟩ hg ⟨tl, htl⟩
        have hnn : x.dat ≠ none := by
          intro e
          have h1 := HW.out.2.2.1
          rw [List.any_eq_false] at h1
          exact h1 none (by rw [htl, ← e]; simp) rfl
        rcases hg with ⟨e, _⟩ | ⟨t', b', r', A4, n4, c4, A5, n5, c5, hdat, hxv, _, hr4, hr5⟩
        · exact absurd e hnn
        obtain rfl : cs = #[.int .u8 (t'.toNat : Int), .slice A4 n4 c4, .slice A5 n5 c5] := by rw [hxv] at hcs; injection hcs with hcs; exact hcs.symm
        obtain ⟨hcx, hfx⟩ := hBlk.facts
        obtain ⟨hcd, hfd⟩ := hi.2.2.1.facts
        have hih := HIH.out (d + 1) (by omega) t' A4 A5 n4 c4 n5 c5 b' W' (hr4.up hi.1)
        rw [show ((d + 1 : Nat) : Int) = (d : Int) + 1 from by omega] at hih
        have HC := Lib.hid hih
        have HX := Lib.hid (And.intro hz (And.intro hi (And.intro hK (And.intro htl hdat))))
        have hdb : (d : Int) < 16 := by omega
        have hDW := (Array.getElem?_eq_some_iff.1 hK).1
        clear hih hz hi hK htl hdat hxv hcs hnn hr hr4 hr5
        gi_wp2_with fail
        refine ⟨trivial, (CallsIn.inRound l (callsIn_wide.2 HC.out)).mono ?_⟩
        rintro e w5 ⟨rfl, hb5⟩
        have hi5 := HX.out.2.1.later hb5
        obtain ⟨hce, hfe⟩ := hi5.2.2.2.facts
        have hb5s := hb5.size
        have HB := Lib.hid (And.intro hb5 hi5)
        clear hb5 hi5 hcd hfd hcx hfx
        obtain ⟨q, hq⟩ : ∃ q, Der.thr k t' b' = q := ⟨_, rfl⟩
        rw [hq]
        have HQ := Lib.hid hq
        clear hq
        by_cases hq0 : q = 0
        · have hne : ((q : Int) != 0) = false := by simp; omega
          gi_wp2
          refine ⟨keepsFrom_below HB.out.1, HB.out.1.block _ (by omega), fun y hy => ?_, HB.out.2, (HB.out.1.block _ hDW).trans HX.out.2.2.1, by omega⟩
          rcases List.mem_append.1 hy with hy | hy
          · exact HX.out.1 y hy
          · obtain rfl := List.mem_singleton.1 hy
            exact ⟨t', b', r', HX.out.2.2.2.2, by rw [HQ.out, hq0]⟩
        · have hne : ((q : Int) != 0) = true := by simp; omega
          gi_wp2
          refine ⟨(keepsFrom_below HB.out.1).trans ((KeepsOthers.setCell _ _ _).from _), ⟨rfl, q, hq0, ?_, HB.out.2.store⟩, (Below.heap_setCell _ _ _ _ (by simp; omega)).trans ((HB.out.1.block _ hDW).trans HX.out.2.2.1)⟩
          rw [HX.out.2.2.2.1]
          exact firstBad_hit ⟨t', b', r', HX.out.2.2.2.2, HQ.out⟩ hq0 tl HX.out.1
      case done2 =>
        rintro D2 zs W' hD2 hzs ⟨hz, hi, hK, _⟩ hK2
        obtain ⟨hc2, hf2⟩ := hi.2.2.2.facts
        have hi2 : ThrI vs 0 d w (W'.setCell ⟨w.heap.size + 2, 0, none⟩ (.int .i64 0)) := hi.store
        have h1K : (W'.setCell ⟨w.heap.size + 2, 0, none⟩ (.int .i64 0)).heap[D]? = some (.deferred (some [])) := (Below.heap_setCell _ _ _ _ (by simp; omega)).trans hK
        have h2K : (W'.setCell ⟨w.heap.size + 2, 0, none⟩ (.int .i64 0)).heap[D2]? = some (.deferred (some [])) := (Below.heap_setCell _ _ _ _ (by simp; omega)).trans hK2
        have hp := hi2.put (.deferred none) h2K rfl (by omega)
        have h3K := (putObj_other (o := .deferred none) (show D ≠ D2 by omega)).trans h1K
        have hq := hp.put (.deferred none) h3K rfl (by omega)
        obtain ⟨hc4, hf4⟩ := hq.2.2.2.facts
        have HP := Lib.hid (And.intro hq (And.intro h2K (And.intro h3K (And.intro hz hzs))))
        clear hi hi2 hK hK2 h1K h2K hp h3K hq hz hzs
        gi_wp2
        refine ⟨by simp, .inl ⟨_, _, rfl, run_takeDeferred HP.out.2.1, by simp, .inl ⟨_, _, rfl, run_takeDeferred HP.out.2.2.1, ?_⟩⟩⟩
        refine ⟨.int .i64 0, by simp [results, Try.results60, go_sem, hc4], ?_⟩
        have hv := HV2.out.1
        rw [← HP.out.2.2.2.2, firstBad_all HP.out.2.2.2.1] at hv
        exact thr_mk (v := 0) hv HP.out.1.1
      case stop2 =>
        rintro D2 c pre W' hD2 ⟨⟨rfl, v, hv0, hvf, hi⟩, hK⟩ hK2
        have hp := hi.put (.deferred none) hK2 rfl (by omega)
        have h3K := (putObj_other (o := .deferred none) (show D ≠ D2 by omega)).trans hK
        have hq := hp.put (.deferred none) h3K rfl (by omega)
        obtain ⟨hc4, hf4⟩ := hq.2.2.2.facts
        have HP := Lib.hid (And.intro hq (And.intro hK2 (And.intro h3K hvf)))
        clear hi hK hK2 hp h3K hq hvf hv0
        gi_wp2
        refine ⟨by simp, .inl ⟨_, _, rfl, run_takeDeferred HP.out.2.1, by simp, .inl ⟨_, _, rfl, run_takeDeferred HP.out.2.2.1, ?_⟩⟩⟩
        refine ⟨.int .i64 (v : Int), by simp [results, Try.results60, go_sem, hc4], ?_⟩
        have hv := HV2.out.1
        rw [HP.out.2.2.2] at hv
        exact thr_mk hv HP.out.1.1
end Go.Proofs.Ytmnekhliblkibaa
end

section
/- The contracts of der.own, der.Parse. -/
namespace Go.Proofs.Ytmnekhliblkibaa
open Go.RowKit
set_option maxRecDepth 100000

/-- An element in memory of its own: its body, then its raw bytes, each in a row of its own. -/
def OwnPost (t : UInt8) (body raw : List UInt8) (w : World) (e : Ending) (w' : World) : Prop :=
  ∃ A1 n1 c1 A2 n2 c2, e = .returned (.agg #[.int .u8 (t.toNat : Int), .slice A1 n1 c1, .slice A2 n2 c2]) ∧ Owns w' w.heap.size w'.heap.size [(.slice A1 n1 c1, body), (.slice A2 n2 c2, raw)] ∧ Below w.heap.size w w'

set_option maxHeartbeats 400000 in
theorem own_any (t : UInt8) (A1 A2 : Option Addr) (n1 c1 n2 c2 : Nat) (body raw : List UInt8) (w : World) (h1 : Rd w w.heap.size A1 n1 c1 body) (h2 : Rd w w.heap.size A2 n2 c2 raw)
    (hn1 : n1 ≤ 1099511627776) (hn2 : n2 ≤ 1099511627776) :
    Calls Try.prog 85 #[.agg #[.int .u8 (t.toNat : Int), .slice A1 n1 c1, .slice A2 n2 c2]] w (OwnPost t body raw w) := by
  go_enter Try.func85, Try.ntmps85
  go_wp2
  go_region_held3 (fun w' => w'.cell? ⟨w.heap.size, 0, none⟩ = some (.int .u8 (t.toNat : Int)) ∧ w'.cell? ⟨w.heap.size, 1, none⟩ = some (.slice A1 n1 c1) ∧ w'.cell? ⟨w.heap.size, 2, none⟩ = some (.slice A2 n2 c2)) (go_keep)
    (first
      | (go_at_call 40; ((with_reducible refine (clone_any A1 n1 c1 body _ (h1.up (by (repeat (first | exact Below.refl _ _ | assumption | (refine Below.setCell ?_ (by first | omega | (simp; done) | (simp; omega)) _) | (refine Below.alloc ?_ (by first | omega | (simp; done) | (simp; omega)) _) | (refine below_drewN ?_ _) | (refine Below.drew ?_))))) (by omega)).mono ?_); rintro e w1 ⟨A3, n3, c3, rfl, hv1, hb1⟩); have hbw1 : Below w.heap.size w w1 := Below.trans (by (repeat (first | exact Below.refl _ _ | assumption | (refine Below.setCell ?_ (by first | omega | (simp; done) | (simp; omega)) _) | (refine Below.alloc ?_ (by first | omega | (simp; done) | (simp; omega)) _) | (refine below_drewN ?_ _) | (refine Below.drew ?_)))) (hb1.mono (by simp; omega)); obtain ⟨hk1, hf1⟩ := bcell hb1; have qhk10 : w1.cell? ⟨w.heap.size, 0, none⟩ = some (.int .u8 (t.toNat : Int)) := (by rw [hk1 _ _ (by simp; omega)]; simp [go_sem]); have qhk11 : w1.cell? ⟨w.heap.size, 1, none⟩ = some (.slice A1 n1 c1) := (by rw [hk1 _ _ (by simp; omega)]; simp [go_sem]); have qhk12 : w1.cell? ⟨w.heap.size, 2, none⟩ = some (.slice A2 n2 c2) := (by rw [hk1 _ _ (by simp; omega)]; simp [go_sem]); have hz1 : w.heap.size + 1 < w1.heap.size := by have := hb1.size; simp at this; omega)
      | (go_at_call 40; ((with_reducible refine (clone_any A2 n2 c2 raw _ (h2.up (by (repeat (first | exact Below.refl _ _ | assumption | (refine Below.setCell ?_ (by first | omega | (simp; done) | (simp; omega)) _) | (refine Below.alloc ?_ (by first | omega | (simp; done) | (simp; omega)) _) | (refine below_drewN ?_ _) | (refine Below.drew ?_))))) (by omega)).mono ?_); rintro e w2 ⟨A4, n4, c4, rfl, hv2, hb2⟩); have hbw2 : Below w.heap.size w w2 := Below.trans (by (repeat (first | exact Below.refl _ _ | assumption | (refine Below.setCell ?_ (by first | omega | (simp; done) | (simp; omega)) _) | (refine Below.alloc ?_ (by first | omega | (simp; done) | (simp; omega)) _) | (refine below_drewN ?_ _) | (refine Below.drew ?_)))) (hb2.mono (by first | (simp; done) | (simp; omega) | exact hbw1.size)); obtain ⟨hk2, hf2⟩ := bcell hb2; have qhk20 : w2.cell? ⟨w.heap.size, 0, none⟩ = some (.int .u8 (t.toNat : Int)) := (by rw [hk2 _ _ (by first | (simp; done) | omega)]; assumption); have qhk21 : w2.cell? ⟨w.heap.size, 1, none⟩ = some (.slice A1 n1 c1) := (by rw [hk2 _ _ (by first | (simp; done) | omega)]; assumption); have qhk22 : w2.cell? ⟨w.heap.size, 2, none⟩ = some (.slice A2 n2 c2) := (by rw [hk2 _ _ (by first | (simp; done) | omega)]; assumption); have hz2 : w.heap.size + 1 < w2.heap.size := by have := hb2.size; omega))
  go_wp2
  have hv1' := hv1.mono (lo' := w.heap.size + 2) (hi' := w1.heap.size) (by simp) (Nat.le_refl _)
  have hs1 := hb1.size
  simp at hs1
  have hs2 := hb2.size
  have p0 : w2.cell? ⟨w.heap.size + 1, 0, none⟩ = some (.int .u8 0) := by rw [hk2 _ _ hz1, hk1 _ _ (by simp)]; simp [go_sem]
  have p1 : w2.cell? ⟨w.heap.size + 1, 1, none⟩ = some (.slice none 0 0) := by rw [hk2 _ _ hz1, hk1 _ _ (by simp)]; simp [go_sem]
  have p2 : w2.cell? ⟨w.heap.size + 1, 2, none⟩ = some (.slice none 0 0) := by rw [hk2 _ _ hz1, hk1 _ _ (by simp)]; simp [go_sem]
  refine bodyPost_ret (v := .agg #[.int .u8 (t.toNat : Int), .slice A3 n3 c3, .slice A4 n4 c4]) (by simp [results, Try.results85, go_sem, p0, p1, p2]) rfl
    ⟨_, _, _, _, _, _, rfl, ⟨w1.heap.size, by omega, ((((hv1'.below hb2 (Nat.le_refl _)).setCell (by simp) _).setCell (by simp) _).setCell (by simp) _).mono (by omega) (Nat.le_refl _),
      _, by simpa using hs2, ((((hv2.setCell (by simp; omega) _).setCell (by simp; omega) _).setCell (by simp; omega) _).mono (Nat.le_refl _) (by simp)), Nat.le_refl _⟩, by (repeat (first | exact Below.refl _ _ | assumption | (refine Below.setCell ?_ (by first | omega | (simp; done) | (simp; omega)) _) | (refine Below.alloc ?_ (by first | omega | (simp; done) | (simp; omega)) _) | (refine below_drewN ?_ _) | (refine Below.drew ?_)))⟩
end Go.Proofs.Ytmnekhliblkibaa
end

section
/- Lists of elements in memory of their own. -/
namespace Go.Proofs.Ytmnekhliblkibaa
open Go.RowKit
set_option maxRecDepth 100000

theorem elem_info : (Try.prog.info? 50).map (fun i => (i.zero, i.size, i.bytes)) = some (some (.agg #[.int .u8 0, .slice none 0 0, .slice none 0 0]), 3, 56) := by kernel_rfl

/-- An element in memory: its tag, the slices of its body and of its raw bytes, what they read as. -/
structure EI where
  t : UInt8
  vb : Value
  body : List UInt8
  vr : Value
  raw : List UInt8
def EI.cells (x : EI) : List Value := [.int .u8 (x.t.toNat : Int), x.vb, x.vr]
def EI.dat (x : EI) : UInt8 × List UInt8 × List UInt8 := (x.t, x.body, x.raw)
def EI.rows (x : EI) : List (Value × List UInt8) := [(x.vb, x.body), (x.vr, x.raw)]

/-- No two of the rows lie in one block. -/
def Apart' (l : List (Value × List UInt8)) : Prop := l.Pairwise fun a b => ∀ g, a.1.ownBlock = some g → b.1.ownBlock ≠ some g

/-- v is a row of elements of the call's own; so is each one's body and raw bytes; no two in one block. -/
def OwnE (w : World) (lo hi : Nat) (v : Value) (l : List EI) : Prop :=
  OwnC 50 3 w lo hi v l.length (l.flatMap EI.cells) ∧ (∀ p ∈ l.flatMap EI.rows, OwnB w lo hi p.1 p.2) ∧ Apart' (l.flatMap EI.rows)

/-- Every block of cells from lo on, none frozen, is as it was. -/
def KeepRows (lo : Nat) (w w' : World) : Prop := ∀ g cs t, lo ≤ g → w.heap[g]? = some (.cells cs t (0, 0)) → w'.heap[g]? = some (.cells cs t (0, 0))

theorem OwnB.keepRows {w w' : World} {lo hi : Nat} {v : Value} {xs : List UInt8} (h : OwnB w lo hi v xs) (hk : KeepRows lo w w') : OwnB w' lo hi v xs := by
  refine ⟨⟨h.1.1, ?_⟩, h.2⟩
  rcases h.1.2 with e | ⟨g, cap, cur, rfl, hb, hg, r⟩
  · exact .inl e
  · exact .inr ⟨g, cap, cur, rfl, hb, hk _ _ _ hb hg, r⟩
theorem OwnC.keepRows {e : TypeId} {size n : Nat} {w w' : World} {lo hi : Nat} {v : Value} {cs : List Value} (h : OwnC e size w lo hi v n cs) (hk : KeepRows lo w w') : OwnC e size w' lo hi v n cs := by
  refine ⟨⟨h.1.1, ?_⟩, h.2⟩
  rcases h.1.2 with e | ⟨g, cap, cur, rfl, hb, hg, r⟩
  · exact .inl e
  · exact .inr ⟨g, cap, cur, rfl, hb, hk _ _ _ hb hg, r⟩
theorem OwnE.keepRows {w w' : World} {lo hi : Nat} {v : Value} {l : List EI} (h : OwnE w lo hi v l) (hk : KeepRows lo w w') : OwnE w' lo hi v l :=
  ⟨h.1.keepRows hk, fun p hp => (h.2.1 p hp).keepRows hk, h.2.2⟩
theorem OwnE.mono {w : World} {lo hi lo' hi' : Nat} {v : Value} {l : List EI} (h : OwnE w lo hi v l) (h1 : lo' ≤ lo) (h2 : hi ≤ hi') : OwnE w lo' hi' v l :=
  ⟨h.1.mono h1 h2, fun p hp => (h.2.1 p hp).mono h1 h2, h.2.2⟩
theorem OwnE.nil_ {w : World} {lo hi : Nat} : OwnE w lo hi (.slice none 0 0) [] := ⟨OwnC.nil_, fun p hp => by simp at hp, List.Pairwise.nil⟩
theorem KeepRows.below {lo B : Nat} {w w' : World} (h : Below B w w') (hB : w.heap.size ≤ B) : KeepRows lo w w' := by
  intro g cs t _ hg
  have hlt := (Array.getElem?_eq_some_iff.1 hg).1
  exact (h.block g (by omega)).trans hg
theorem KeepRows.alloc {lo : Nat} (w : World) (o : Obj) : KeepRows lo w (w.alloc o) := KeepRows.below ((Below.refl _ _).alloc (Nat.le_refl _) o) (Nat.le_refl _)
theorem KeepRows.setCell {lo : Nat} {w : World} {p : Addr} (hp : p.block < lo) (u : Value) : KeepRows lo w (w.setCell p u) := by
  intro g cs t h1 hg
  exact (Below.heap_setCell w p u g (by omega)).trans hg
theorem KeepRows.put {lo : Nat} {w : World} {D : Nat} {o : Obj} (o' : Obj) (hD : w.heap[D]? = some o) (ho : o.isCells = false) : KeepRows lo w (w.putObj D o') := by
  intro g cs t _ hg
  have hne : g ≠ D := by rintro rfl; rw [hg] at hD; cases hD; cases ho
  exact (putObj_other hne).trans hg
theorem KeepRows.trans {lo : Nat} {a b c : World} (h : KeepRows lo a b) (h' : KeepRows lo b c) : KeepRows lo a c := fun g cs t h1 h2 => h' g cs t h1 (h g cs t h1 h2)
theorem KeepRows.ownX {X Y : World} {row : Option Nat} {lo Bn N : Nat} (hB : Bn < lo) (hg : X.grownBy Y row) (hr : ∀ r, row = some r → r = Bn ∨ (N ≤ r ∧ ∃ o : Obj, X.heap[r]? = some o ∧ o.isCells = false)) : KeepRows lo X Y := by
  intro g cs t h1 h2
  have hlt := (Array.getElem?_eq_some_iff.1 h2).1
  refine (hg.block g hlt fun e => ?_).trans h2
  rcases hr g e.symm with rfl | ⟨_, o, ho, hc⟩
  · omega
  · rw [h2] at ho; cases ho; cases hc

/-- One element more: its rows lie behind all that was there. -/
theorem OwnE.snoc {w w' : World} {lo : Nat} {v v' : Value} {l : List EI} {x : EI} {mid : Nat} (h : OwnE w lo mid v l) (hx : Owns w mid w.heap.size x.rows)
    (hown : OwnC 50 3 w' lo w'.heap.size v' (l.length + 1) (l.flatMap EI.cells ++ x.cells)) (hg : w.grownBy w' v.ownBlock) (hlo : lo ≤ mid) : OwnE w' lo w'.heap.size v' (l ++ [x]) := by
  have hrow : ∀ (p : Value × List UInt8) (a b : Nat), OwnB w a b p.1 p.2 → b ≤ w.heap.size → OwnB w' a b p.1 p.2 := by
    intro p a b hp hb
    refine ⟨⟨hp.1.1, ?_⟩, hp.2⟩
    rcases hp.1.2 with e | ⟨g, cap, cur, e, hb', hg', r⟩
    · exact .inl e
    · refine .inr ⟨g, cap, cur, e, hb', (hg.block g ((Array.getElem?_eq_some_iff.1 hg').1) fun e' => ?_).trans hg', r⟩
      rcases h.1.1.2 with ⟨rfl, _⟩ | ⟨g2, cap2, cur2, rfl, hb2, hg2, _⟩
      · simp [Value.ownBlock] at e'
      · simp only [Value.ownBlock, Option.some.injEq] at e'
        subst e'
        rw [hg2] at hg'
        injection hg' with hg'
        injection hg' with _ ht
        revert ht
        decide
  obtain ⟨m1, h1, hb1, m2, h2, hb2, h3⟩ := hx
  have hm : m2 ≤ w.heap.size := h3
  have hsz := hg.size
  refine ⟨by simpa using hown, ?_, ?_⟩
  · intro p hp
    rw [List.flatMap_append, List.mem_append] at hp
    rcases hp with hp | hp
    · have := h.2.1 p hp
      exact (hrow p _ _ this (by omega)).mono (Nat.le_refl _) (by omega)
    · simp only [List.flatMap_cons, List.flatMap_nil, List.append_nil, EI.rows, List.mem_cons, List.not_mem_nil, or_false] at hp
      rcases hp with rfl | rfl
      · exact (hrow (x.vb, x.body) _ _ hb1 (by omega)).mono hlo (by omega)
      · exact (hrow (x.vr, x.raw) _ _ hb2 (by omega)).mono (by omega) (by omega)
  · unfold Apart'
    rw [List.flatMap_append, List.pairwise_append]
    refine ⟨h.2.2, ?_, ?_⟩
    · simp only [List.flatMap_cons, List.flatMap_nil, List.append_nil, EI.rows, List.pairwise_cons, List.mem_cons, List.not_mem_nil, or_false, forall_eq, List.Pairwise.nil, and_true, false_implies, implies_true]
      intro g e1 e2
      have a1 := hb1.2 g e1
      have a2 := (hb2.1.lt g e2).1
      omega
    · intro a ha b hb g e1 e2
      have a1 := (h.2.1 a ha).2 g e1
      simp only [List.flatMap_cons, List.flatMap_nil, List.append_nil, EI.rows, List.mem_cons, List.not_mem_nil, or_false] at hb
      rcases hb with rfl | rfl
      · have a2 := (hb1.1.lt g e2).1; omega
      · have a2 := (hb2.1.lt g e2).1; omega

theorem reads_three (w : World) (t : TypeId) (a b c : Value) : Reads (w.alloc (.cells #[a, b, c] t)) (w.heap.size + 1) 3 (some ⟨w.heap.size, 0, none⟩) 1 [a, b, c] := by
  refine ⟨rfl, fun _ => ⟨_, rfl, by simp, fun j x hx => ?_⟩⟩
  rw [Addr.add_lit]
  have := (Blk.new w t #[a, b, c]).cell (0 + j)
  rw [this, Nat.zero_add]
  simpa using hx

/-- append, as one step of a region inside a fence. -/
theorem stepIn_appC {F : Fence} {N : Nat} {P : Program} {w : World} {ops : Array Oper} {o : Oper} {a : Act} {K : Act → World → Prop} {Q : Exit → Act → World → Prop} {E : Prop} (hgd : o.guard = none) (s x : Operand) (t : TypeId)
    (ho : o.op = .call { callee := .builtin .append, args := #[s, x], argTypes := #[t, t] })
    (e : TypeId) (z : Value) (size bytes : Nat) (hinfo : (P.info? e).map (fun i => (i.zero, i.size, i.bytes)) = some (some z, size, bytes)) (ht : P.underlying t = some (.slice e)) (hzs : z.cells.size = size) (hsz : 0 < size)
    (lo hi : Nat) (v : Value) (n : Nat) (xs : List Value) (hs : a.eval s = v) (hown : OwnC e size w lo hi v n xs) (hlo : lo ≤ w.heap.size)
    (B : Nat) (A : Option Addr) (m c : Nat) (news : List Value) (hx : a.eval x = .slice A m c) (hr : Reads w B size A m news) (h1 : ∀ u ∈ news, u.oneCell' = true) (h63 : n + m ≤ 9223372036854775807) (hlen : (n + m) * bytes ≤ 140737488355328)
    (h : ∀ v' w', OwnC e size w' lo w'.heap.size v' (n + m) (xs ++ news) → w.grownBy w' v.ownBlock → (v'.ownBlock = v.ownBlock ∨ v'.ownBlock = some w.heap.size) → Below lo w w' → K (a.put o.dst v') w') :
    if Region.wanted o (yielded ops a.tmps) = true then Oper.wpIn F N P o a w K Q else E := by
  have hw : Region.wanted o (yielded ops a.tmps) = true := by simp [Region.wanted, hgd]
  rw [if_pos hw]
  obtain ⟨i0, hi0, hz0, hz1, hz2⟩ := info_parts hinfo
  obtain ⟨v', w', hrun, g1, g2, g3⟩ := run_append_any (P := P) w lo t o.type e i0 z size bytes ht hi0 hz0 hz1 hz2 hzs hsz v n xs hown.1 B A m c news hr h1 (by simp only [maxLen]; omega) hlen hlo
  unfold Oper.wpIn
  refine ⟨?_, ?_⟩
  · simp [Oper.about, ho, resolve, Target.leads, Sem.run_pure]
  · rw [Oper.semAt_plain F _ _ (by rw [ho]; intro c hc'; cases hc')]
    simp [execOp, ho, resolve, invoke, builtin, hs, hx, hrun, Result.andThen]
    exact h v' w' (OwnC.of g1) g2 g3 ((Below.refl _ _).grown g2 hlo fun k hk => (hown.1.lt k hk).1)
end Go.Proofs.Ytmnekhliblkibaa
end

section
/- The contract of der.Parse. -/
namespace Go.Proofs.Ytmnekhliblkibaa
open Go.RowKit
set_option maxRecDepth 100000

/-- What Parse tells: the element and the rest, each row in new memory; or the error. -/
def ParsePost (er : Int) (xs : List UInt8) (w : World) (e : Ending) (w' : World) : Prop :=
  Below w.heap.size w w' ∧
  ((Der.elem xs = none ∧ e = .returned (.tuple #[.agg #[.int .u8 0, .slice none 0 0, .slice none 0 0], .slice none 0 0, .int .i64 er])) ∨
   ∃ t body raw rest A1 n1 c1 A2 n2 c2 A3 n3 c3, Der.elem xs = some (t, body, raw, rest) ∧
     e = .returned (.tuple #[.agg #[.int .u8 (t.toNat : Int), .slice A1 n1 c1, .slice A2 n2 c2], .slice A3 n3 c3, .int .i64 0]) ∧
     Owns w' w.heap.size w'.heap.size [(.slice A1 n1 c1, body), (.slice A2 n2 c2, raw), (.slice A3 n3 c3, rest)])

theorem elem_len {xs : List UInt8} {t : UInt8} {body raw rest : List UInt8} (h : Der.elem xs = some (t, body, raw, rest)) : body.length ≤ xs.length ∧ raw.length ≤ xs.length ∧ rest.length ≤ xs.length ∧ raw ++ rest = xs := by
  unfold Der.elem at h
  split at h
  · split at h
    · simp only [Option.some.injEq, Prod.mk.injEq] at h
      obtain ⟨_, rfl, rfl, rfl⟩ := h
      refine ⟨by simp; omega, by simp; omega, by simp, List.take_append_drop _ _⟩
    · cases h
  · cases h

set_option maxHeartbeats 400000 in
theorem parse_any (A : Option Addr) (n c : Nat) (xs : List UInt8) (w : World) (h : Rd w w.heap.size A n c xs) (hn : n ≤ 1099511627776) :
    Calls Try.prog 64 #[.slice A n c] w (ParsePost 9 xs w) := by
  have hl := h.len
  have hb0 := Blk.new w 50 #[.int .u8 0, .slice none 0 0, .slice none 0 0]
  go_enter Try.func64, Try.ntmps64
  go_wp2_with fail
  refine (element_any A n c xs _ _ (h.up (by (repeat (first | exact Below.refl _ _ | assumption | (refine Below.setCell ?_ (by first | omega | (simp; done) | (simp; omega)) _) | (refine Below.alloc ?_ (by first | omega | (simp; done) | (simp; omega)) _) | (refine below_drewN ?_ _) | (refine Below.drew ?_))))) (Nat.le_refl _)).mono ?_
  rintro e w1 ⟨hb1, ⟨hno, rfl⟩ | ⟨t, body, raw, rest, A1, n1, c1, A2, n2, c2, A3, n3, c3, hel, rfl, h1, h2, h3⟩⟩
  all_goals
    have hbw1 : Below w.heap.size w w1 := Below.trans (by (repeat (first | exact Below.refl _ _ | assumption | (refine Below.setCell ?_ (by first | omega | (simp; done) | (simp; omega)) _) | (refine Below.alloc ?_ (by first | omega | (simp; done) | (simp; omega)) _) | (refine below_drewN ?_ _) | (refine Below.drew ?_)))) (hb1.mono (by simp))
    obtain ⟨hc1, hf1, hB1, hz1⟩ := hb0.box hb1 (by simp)
  · have HNO := Lib.hid hno
    clear hno hl
    go_wp2
    refine bodyPost_ret (v := .tuple #[.agg #[.int .u8 0, .slice none 0 0, .slice none 0 0], .slice none 0 0, .int .i64 9]) (by simp [results, Try.results64, go_sem, hc1, hz1]) rfl ⟨by (repeat (first | exact Below.refl _ _ | assumption | (refine Below.setCell ?_ (by first | omega | (simp; done) | (simp; omega)) _) | (refine Below.alloc ?_ (by first | omega | (simp; done) | (simp; omega)) _) | (refine below_drewN ?_ _) | (refine Below.drew ?_))), .inl ⟨HNO.out, rfl⟩⟩
  · have hll := elem_len hel
    have HEL := Lib.hid hel
    replace h1 := h1.up hb1
    replace h2 := h2.up hb1
    replace h3 := h3.up hb1
    have hn1 : n1 ≤ 1099511627776 := by have := h1.len; omega
    have hn2 : n2 ≤ 1099511627776 := by have := h2.len; omega
    have hn3 : n3 ≤ 1099511627776 := by have := h3.len; omega
    clear hel hl hll
    go_wp2_with fail
    refine (own_any t A1 A2 n1 c1 n2 c2 body raw _ (h1.up (by (repeat (first | exact Below.refl _ _ | assumption | (refine Below.setCell ?_ (by first | omega | (simp; done) | (simp; omega)) _) | (refine Below.alloc ?_ (by first | omega | (simp; done) | (simp; omega)) _) | (refine below_drewN ?_ _) | (refine Below.drew ?_))))) (h2.up (by (repeat (first | exact Below.refl _ _ | assumption | (refine Below.setCell ?_ (by first | omega | (simp; done) | (simp; omega)) _) | (refine Below.alloc ?_ (by first | omega | (simp; done) | (simp; omega)) _) | (refine below_drewN ?_ _) | (refine Below.drew ?_))))) hn1 hn2).mono ?_
    rintro e w2 ⟨A4, n4, c4, A5, n5, c5, rfl, ho, hb2⟩
    have hs1 := hb2.size
    simp at hs1
    have hbw2 : Below w.heap.size w w2 := Below.trans (by (repeat (first | exact Below.refl _ _ | assumption | (refine Below.setCell ?_ (by first | omega | (simp; done) | (simp; omega)) _) | (refine Below.alloc ?_ (by first | omega | (simp; done) | (simp; omega)) _) | (refine below_drewN ?_ _) | (refine Below.drew ?_)))) (hb2.mono (by simp; omega))
    have hbk2 : Below w1.heap.size w1 w2 := Below.trans (by (repeat (first | exact Below.refl _ _ | assumption | (refine Below.setCell ?_ (by first | omega | (simp; done) | (simp; omega)) _) | (refine Below.alloc ?_ (by first | omega | (simp; done) | (simp; omega)) _) | (refine below_drewN ?_ _) | (refine Below.drew ?_)))) (hb2.mono (by simp))
    replace h3 := h3.up hbk2
    replace ho := ho.mono (lo' := w1.heap.size) (hi' := w2.heap.size) (by simp) (Nat.le_refl _)
    obtain ⟨hc2, hf2, hB2, hz2⟩ := hB1.box hbk2 hz1
    clear hc1 hf1
    go_wp2_with fail
    refine (clone_any A3 n3 c3 rest _ h3 hn3).mono ?_
    rintro e w3 ⟨A6, n6, c6, rfl, ho3, hb3⟩
    have hs2 := hb3.size
    have hbw3 : Below w.heap.size w w3 := Below.trans hbw2 (hb3.mono (by omega))
    obtain ⟨hc3, hf3, hB3, hz3⟩ := hB2.box hb3 hz2
    clear hc2 hf2
    go_wp2
    refine bodyPost_ret (v := .tuple #[.agg #[.int .u8 (t.toNat : Int), .slice A4 n4 c4, .slice A5 n5 c5], .slice A6 n6 c6, .int .i64 0]) (by simp [results, Try.results64, go_sem, hc3]) rfl
      ⟨by (repeat (first | exact Below.refl _ _ | assumption | (refine Below.setCell ?_ (by first | omega | (simp; done) | (simp; omega)) _) | (refine Below.alloc ?_ (by first | omega | (simp; done) | (simp; omega)) _) | (refine below_drewN ?_ _) | (refine Below.drew ?_))), .inr ⟨_, _, _, _, _, _, _, _, _, _, _, _, _, HEL.out, rfl, ?_⟩⟩
    have hall := (ho.below hb3 (Nat.le_refl _)).append (Owns.one ho3 hs2)
    exact ((((hall.setCell (by simp; omega) _).setCell (by simp; omega) _).setCell (by simp; omega) _).mono (by omega) (by simp))
end Go.Proofs.Ytmnekhliblkibaa
end

section
/- The contract of der.All. -/
namespace Go.Proofs.Ytmnekhliblkibaa
open Go.RowKit Go.Shelf
attribute [local go_sem] Oper.semAt_some
set_option maxRecDepth 100000
set_option linter.unusedVariables false
set_option linter.unusedSimpArgs false

/-- What All tells. -/
def AllPost (xs : List UInt8) (w : World) (e : Ending) (w' : World) : Prop :=
  Below w.heap.size w w' ∧
  (((Der.seq xs).any (·.isNone) = true ∧ e = .returned (.tuple #[.slice none 0 0, .int .i64 9])) ∨
   ∃ l A n c, Der.seq xs = (l : List EI).map (fun x => some x.dat) ∧ e = .returned (.tuple #[.slice A n c, .int .i64 0]) ∧ OwnE w' w.heap.size w'.heap.size (.slice A n c) l)

/-- What All's rounds keep. -/
def AllI (N : Nat) (w : World) (pre : List Item) (W : World) : Prop :=
  Below w.heap.size w W ∧ Blk W (w.heap.size + 1) 33 #[.int .i64 0] ∧
  ∃ v l, Blk W w.heap.size 82 #[v] ∧ pre.map (·.dat) = (l : List EI).map (fun x => some x.dat) ∧ OwnE W N W.heap.size v l ∧ N ≤ W.heap.size

theorem seqF_len : ∀ (k : Nat) (xs : List UInt8), (Der.seqF k xs).length ≤ k
  | 0, _ => by simp [Der.seqF]
  | k + 1, xs => by
    rw [Der.seqF]
    split
    · simp
    · split
      · simp
      · simp only [List.length_cons]
        have := seqF_len k (by assumption)
        omega

theorem seqF_mem : ∀ (k : Nat) (xs : List UInt8) (t : UInt8) (b r : List UInt8), some (t, b, r) ∈ Der.seqF k xs → b.length ≤ xs.length ∧ r.length ≤ xs.length
  | 0, _, _, _, _, h => by simp [Der.seqF] at h
  | k + 1, xs, t, b, r, h => by
    rw [Der.seqF] at h
    split at h
    · simp at h
    · split at h
      · simp at h
      · rename_i t' b' r' rest he
        have hl := elem_len he
        rcases List.mem_cons.1 h with h | h
        · simp only [Option.some.injEq, Prod.mk.injEq] at h
          obtain ⟨rfl, rfl, rfl⟩ := h
          exact ⟨hl.1, hl.2.1⟩
        · have := seqF_mem k rest t b r h
          omega

theorem AllI.own (w : World) (Bn N : Nat) (h1 : w.heap.size + 2 ≤ Bn) (h2 : Bn < N) : OwnX Bn N (AllI N w) := by
  rintro s X Y row ⟨hb, he, v, l, hv, hd, ho, hN⟩ hg hr
  exact ⟨OwnX.below (β := Unit) (by omega) (by omega) (Nat.le_refl _) () X Y row hb hg hr, OwnX.blk (β := Unit) _ (fun _ => _) (by omega) () X Y row he hg hr, v, l, OwnX.blk (β := Unit) _ (fun _ => #[v]) (by omega) () X Y row hv hg hr, hd,
    (ho.keepRows (KeepRows.ownX h2 hg hr)).mono (Nat.le_refl _) hg.size, Nat.le_trans hN hg.size⟩
theorem AllI.put {N : Nat} {w W : World} {pre : List Item} (h : AllI N w pre W) {D : Nat} {o : Obj} (o' : Obj) (hD : W.heap[D]? = some o) (ho : o.isCells = false) (hge : w.heap.size ≤ D) : AllI N w pre (W.putObj D o') := by
  obtain ⟨hb, he, v, l, hv, hd, hE, hN⟩ := h
  have hg := grownBy_putObj' W D o'
  have hsz := hg.size
  have key : ∀ {g : Nat} {t : TypeId} {cs : Array Value}, Blk W g t cs → Blk (W.putObj D o') g t cs := fun hb => hb.grown hg (fun e => by
    injection e with e; subst e; unfold Blk at hb; rw [hb] at hD; cases hD; cases ho)
  exact ⟨hb.grown hg hb.size (fun k e => by injection e with e; omega), key he, v, l, key hv, hd, (hE.keepRows (KeepRows.put o' hD ho)).mono (Nat.le_refl _) hsz, by omega⟩

theorem all_round {w w1 W w5 w6 : World} {l' : List EI} {pre : List Item} {x : Item} {v v6 : Value} {t' : UInt8} {b' r' : List UInt8} {A6 A7 : Option Addr} {n6 c6 n7 c7 : Nat}
    (hb : Below w.heap.size w W) (he : Blk W (w.heap.size + 1) 33 #[.int .i64 0]) (hv : Blk W w.heap.size 82 #[v]) (hE : OwnE W w1.heap.size W.heap.size v l') (hok : ∀ x ∈ pre, Item.ok x = true)
    (hd : pre.map (·.dat) = l'.map (fun x => some x.dat)) (hxd : x.dat = some (t', b', r')) (hxo : x.ok = true) (hN : w1.heap.size ≤ W.heap.size) (hs1 : w1.heap.size = w.heap.size + 3)
    (ho5 : Owns w5 W.drew.heap.size w5.heap.size [(.slice A6 n6 c6, b'), (.slice A7 n7 c7, r')]) (hb5 : Below W.drew.heap.size W.drew w5)
    (hown6 : OwnC 50 3 w6 w1.heap.size w6.heap.size v6 (l'.length + 1) (l'.flatMap EI.cells ++ [.int .u8 (t'.toNat : Int), .slice A6 n6 c6, .slice A7 n7 c7]))
    (hg6 : (w5.alloc (.cells #[.int .u8 (t'.toNat : Int), .slice A6 n6 c6, .slice A7 n7 c7] 50)).grownBy w6 v.ownBlock)
    (hb6 : Below w1.heap.size (w5.alloc (.cells #[.int .u8 (t'.toNat : Int), .slice A6 n6 c6, .slice A7 n7 c7] 50)) w6) :
    KeepsFrom w1.heap.size W (w6.setCell ⟨w.heap.size, 0, none⟩ v6) ∧ (w6.setCell ⟨w.heap.size, 0, none⟩ v6).heap[w.heap.size + 2]? = W.heap[w.heap.size + 2]? ∧ (∀ y ∈ pre ++ [x], Item.ok y = true) ∧ AllI w1.heap.size w (pre ++ [x]) (w6.setCell ⟨w.heap.size, 0, none⟩ v6) := by
  have hE5 : OwnE (w5.alloc (.cells #[.int .u8 (t'.toNat : Int), .slice A6 n6 c6, .slice A7 n7 c7] 50)) w1.heap.size W.heap.size v l' :=
    hE.keepRows (KeepRows.trans (KeepRows.below (Below.drew (Below.refl _ _)) (Nat.le_refl _)) (KeepRows.trans (KeepRows.below hb5 (Nat.le_refl _)) (KeepRows.alloc _ _)))
  have ho5' : Owns (w5.alloc (.cells #[.int .u8 (t'.toNat : Int), .slice A6 n6 c6, .slice A7 n7 c7] 50)) W.heap.size (w5.alloc (.cells #[.int .u8 (t'.toNat : Int), .slice A6 n6 c6, .slice A7 n7 c7] 50)).heap.size
      (EI.rows ⟨t', .slice A6 n6 c6, b', .slice A7 n7 c7, r'⟩) := (ho5.alloc (Nat.le_refl _) _).mono (Nat.le_refl _) (by simp)
  have hE6 := OwnE.snoc (x := ⟨t', .slice A6 n6 c6, b', .slice A7 n7 c7, r'⟩) hE5 ho5' hown6 hg6 hN
  have hs5 : W.heap.size ≤ w5.heap.size := hb5.size
  have hs6 := hb6.size
  simp at hs6
  have hbw : Below w.heap.size w w6 := ((Below.drew hb).trans (hb5.mono (by have := hb.size; simpa using this))).trans (Below.trans ((Below.refl _ _).alloc (by have := hb.size; omega) _) (hb6.mono (by omega)))
  have hvl := hv.lt
  have hel := he.lt
  have hv6 := (((hv.drew).below hb5 hvl).alloc (.cells #[.int .u8 (t'.toNat : Int), .slice A6 n6 c6, .slice A7 n7 c7] 50)).below hb6 (by omega)
  have he6 := (((he.drew).below hb5 hel).alloc (.cells #[.int .u8 (t'.toNat : Int), .slice A6 n6 c6, .slice A7 n7 c7] 50)).below hb6 (by omega)
  have hrow : ∀ (j : Nat) (o : Obj), v.ownBlock = some j → (w5.alloc (.cells #[.int .u8 (t'.toNat : Int), .slice A6 n6 c6, .slice A7 n7 c7] 50)).heap[j]? = some o → o.isCells = true := by
    intro j o hj ho
    rcases hE5.1.1.2 with ⟨rfl, _⟩ | ⟨g2, cap2, cur2, rfl, hb2, hg2, _⟩
    · simp [Value.ownBlock] at hj
    · simp only [Value.ownBlock, Option.some.injEq] at hj
      subst hj
      rw [hg2] at ho
      cases ho
      rfl
  refine ⟨(((((KeepsOthers.drew W).from _).trans (keepsFrom_below hb5)).trans ((KeepsOthers.alloc _ _).from _)).trans ((KeepsOthers.of_grownBy hg6 hrow).from _)).trans ((KeepsOthers.setCell _ _ _).from _), ?_, ?_, ?_⟩
  · rw [Below.heap_setCell _ _ _ _ (by simp), hb6.block _ (by omega), Below.heap_alloc _ _ _ (by omega), hb5.block _ (by simp; omega)]
    rfl
  · intro y hy
    rcases List.mem_append.1 hy with hy | hy
    · exact hok y hy
    · obtain rfl := List.mem_singleton.1 hy
      exact hxo
  · refine ⟨hbw.setCell (by simp) _, he6.far (by simp) _, v6, l' ++ [⟨t', .slice A6 n6 c6, b', .slice A7 n7 c7, r'⟩], by simpa using hv6.set_ 0 v6, ?_, (hE6.keepRows (KeepRows.setCell (by simp; omega) _)).mono (Nat.le_refl _) (by simp), by simp; omega⟩
    rw [List.map_append, List.map_append, hd]
    simp [hxd, EI.dat]

set_option maxHeartbeats 4000000 in
theorem all_any (A1 : Option Addr) (n1 c1 : Nat) (xs : List UInt8) (w : World) (h1 : Rd w w.heap.size A1 n1 c1 xs) (hn : n1 ≤ 1099511627) :
    Calls Try.prog 61 #[.slice A1 n1 c1] w (AllPost xs w) := by
  have hlx := h1.len
  refine (callsIn_wide (n := 5)).1 ?_
  refine callsIn_of_wp_marks Try.func61 rfl trivial ?_ rfl
  simp only [Try.ntmps61, List.size_toArray, List.length_cons, List.length_nil, Nat.reduceAdd, Nat.reduceSub, Array.replicate_succ, Array.replicate_zero, List.push_toArray, List.append_toArray, List.nil_append, List.cons_append]
  have hB0 := (Blk.new w 82 #[.slice none 0 0]).alloc (.cells #[.int .i64 0] 33)
  have hB1 := Blk.new (w.alloc (.cells #[.slice none 0 0] 82)) 33 #[.int .i64 0]
  simp only [World.size_alloc] at hB1
  gi_wp2_with fail
  refine ⟨trivial, (callsIn_wide.2 (each_any A1 n1 c1 _)).mono ?_⟩
  rintro e w1 ⟨rfl, hb1, hBn, hz1⟩
  simp only [World.size_alloc] at hb1 hBn hz1
  have hbw1 : Below w.heap.size w w1 := Below.trans (by (repeat (first | exact Below.refl _ _ | assumption | (refine Below.setCell ?_ (by first | omega | (simp; done) | (simp; omega)) _) | (refine Below.alloc ?_ (by first | omega | (simp; done) | (simp; omega)) _) | (refine below_drewN ?_ _) | (refine Below.drew ?_)))) (hb1.mono (by omega))
  have hB0' := hB0.below hb1 (by omega)
  have hB1' := hB1.below hb1 (by omega)
  clear hb1 hB0 hB1
  have hI0 : AllI w1.heap.size w [] w1 := ⟨hbw1, hB1', _, [], hB0', rfl, OwnE.nil_, Nat.le_refl _⟩
  have hs1 : w1.heap.size = w.heap.size + 3 := by omega
  have HN := Lib.hid hBn
  have HL := Lib.hid hlx
  clear hB1' hBn hz1 hB0' hlx
  gi_wp2_with fail
  refine range_each (by omega) (w.heap.size + 2) rfl rfl w.heap.size w A1 n1 c1 xs HN.out h1
    (fun pre W => (∀ x ∈ pre, Item.ok x = true) ∧ AllI w1.heap.size w pre W)
    (fun c pre W => c = .ret ∧ (Der.seq xs).any (·.isNone) = true ∧ Below w.heap.size w W ∧ Blk W (w.heap.size + 1) 33 #[.int .i64 9] ∧ Blk W w.heap.size 82 #[.slice none 0 0])
    ((OwnX.pure_ _ _ _).and (AllI.own _ _ _ (by omega) (by omega))) (fun c => (OwnX.pure_ _ _ _).and ((OwnX.pure_ _ _ _).and ((OwnX.below (by omega) (by omega) (Nat.le_refl _)).and ((OwnX.blk _ _ (by omega)).and (OwnX.blk _ _ (by omega))))))
    (fun s X h => ⟨h.2.1, h.2.1.size⟩) ⟨(fun x hx => by cases hx), hI0⟩
    (fun x a' W => ∃ Bx, (∃ u0 u1 u6 u7 u8 u9 u10 u11 u12 u13 u14 u15 u16 u17 : Value, a' = { tmps := #[u0, u1, .pointer (some ⟨w.heap.size, 0, none⟩), .pointer (some ⟨w.heap.size + 1, 0, none⟩), .pointer (some ⟨Bx, 0, none⟩), .bool x.ok, u6, u7, u8, u9, u10, u11, u12, u13, u14, u15, u16, u17], defers := [] }) ∧ (w.heap.size + 3 ≤ Bx ∧ ∃ cs, x.v = .agg cs ∧ Blk W Bx 50 cs)) ?hAx ?assign ?body ?done ?stop
  case hAx =>
    rintro x a' s X Y row ⟨Bx, hx, h3, cs, e, hb⟩ hg hr
    exact ⟨Bx, hx, h3, cs, e, OwnX.blk (β := Unit) 50 (fun _ => cs) (by omega) () X Y row hb hg hr⟩
  case assign =>
    intro l pre x W' K hi hg hK'
    have hfin : ∀ cs, x.v = .agg cs → KeepsFrom w1.heap.size W' (W'.alloc (.cells cs 50)) ∧ (W'.alloc (.cells cs 50)).heap[w.heap.size + 2]? = W'.heap[w.heap.size + 2]? ∧
        ((∀ x ∈ pre, Item.ok x = true) ∧ AllI w1.heap.size w pre (W'.alloc (.cells cs 50))) ∧
        (w.heap.size + 3 ≤ W'.heap.size ∧ ∃ cs', x.v = .agg cs' ∧ Blk (W'.alloc (.cells cs 50)) W'.heap.size 50 cs') := by
      intro cs hcs
      obtain ⟨hz, hb, he, v, l', hv, hd, hE, hN⟩ := hi
      exact ⟨(KeepsOthers.alloc _ _).from _, Below.heap_alloc _ _ _ (by omega), ⟨hz, hb.alloc (by omega) _, he.alloc _, v, l', hv.alloc _, hd, (hE.keepRows (KeepRows.alloc _ _)).mono (Nat.le_refl _) (by simp), by simp; omega⟩,
        by omega, cs, hcs, Blk.new _ _ _⟩
    rcases hg with ⟨_, hxv, hxo⟩ | ⟨t', b', r', A4, n4, c4, A5, n5, c5, _, hxv, hxo, _, _⟩
    · have HF := Lib.hid (hfin _ hxv)
      rw [hxv]
      have HXO := Lib.hid hxo
      clear hfin hxv hi
      gi_wp2
      exact hK' _ _ HF.out.1 HF.out.2.1 HF.out.2.2.1 ⟨W'.heap.size, by rw [HXO.out]; exact ⟨_, _, _, _, _, _, _, _, _, _, _, _, _, _, rfl⟩, HF.out.2.2.2⟩
    · have HF := Lib.hid (hfin _ hxv)
      rw [hxv]
      have HXO := Lib.hid hxo
      clear hfin hxv hi
      gi_wp2
      exact hK' _ _ HF.out.1 HF.out.2.1 HF.out.2.2.1 ⟨W'.heap.size, by rw [HXO.out]; exact ⟨_, _, _, _, _, _, _, _, _, _, _, _, _, _, rfl⟩, HF.out.2.2.2⟩
  case body =>
    rintro l pre x a' W hlN ⟨r, hr⟩ ⟨hok, hb, he, v, l', hv, hd, hE, hN⟩ ⟨Bx, ⟨u0, u1, u6, u7, u8, u9, u10, u11, u12, u13, u14, u15, u16, u17, rfl⟩, h3, cs, hcs, hBlk⟩ hg ⟨tl, htl⟩
    obtain ⟨hcv, hfv⟩ := hv.facts
    obtain ⟨hce, hfe⟩ := he.facts
    have hvl := hv.lt
    have hel := he.lt
    rcases hg with ⟨hxd, hxv, hxo⟩ | ⟨t', b', r', A4, n4, c4, A5, n5, c5, hxd, hxv, hxo, hr4, hr5⟩
    · have hany : (Der.seq xs).any (·.isNone) = true := by
        rw [htl, List.map_append, List.map_cons, hxd]
        simp
      have HO := Lib.hid (And.intro hb (And.intro he (And.intro hv hany)))
      clear hb he hv hok hd hE hr htl hcs hBlk hxd hxv hany
      gi_wp2
      refine ⟨((KeepsOthers.setCell _ _ _).trans (KeepsOthers.setCell _ _ _)).from _, rfl, HO.out.2.2.2, (HO.out.1.setCell (by simp) _).setCell (by simp) _, ?_, ?_⟩
      · simpa using (HO.out.2.1.far (by simp) _).set_ 0 (.int .i64 9)
      · simpa using (HO.out.2.2.1.set_ 0 (.slice none 0 0)).far (by simp) _
    · obtain rfl : cs = #[.int .u8 (t'.toNat : Int), .slice A4 n4 c4, .slice A5 n5 c5] := by rw [hxv] at hcs; injection hcs with hcs; exact hcs.symm
      obtain ⟨hcx, hfx⟩ := hBlk.facts
      have HX := Lib.hid (And.intro hb (And.intro he (And.intro hv (And.intro hE (And.intro hok (And.intro hd (And.intro hxd (And.intro hxo (And.intro htl (And.intro hr4 hr5))))))))))
      clear hb he hv hE hok hd hr htl hcs hBlk hxd hxv hr4 hr5
      gi_wp2
      have hll : pre.length = l'.length := by have := congrArg List.length HX.out.2.2.2.2.2.1; simpa using this
      have hl5 : l'.length + 1 ≤ n1 := by
        have h1 := congrArg List.length HX.out.2.2.2.2.2.2.2.2.1
        have h2 := seqF_len xs.length xs
        have h3 := HL.out
        rw [show Der.seqF xs.length xs = Der.seq xs from rfl] at h2
        simp at h1
        omega
      have hmem : (some (t', b', r')) ∈ Der.seq xs := by rw [HX.out.2.2.2.2.2.2.2.2.1, List.map_append, List.map_cons, HX.out.2.2.2.2.2.2.1]; simp
      have hbl := seqF_mem xs.length xs t' b' r' hmem
      have hn4 : n4 ≤ 1099511627776 := by have h1 := HX.out.2.2.2.2.2.2.2.2.2.1.len; have h2 := HL.out; omega
      have hn5 : n5 ≤ 1099511627776 := by have h1 := HX.out.2.2.2.2.2.2.2.2.2.2.len; have h2 := HL.out; omega
      clear hmem hbl
      refine wpIn_region_any (by kernel_rfl) ?_
      try (change wpAnyIn _ _ _ _ _ _ _ _ _ (World.drew _))
      refine wpAnyIn_ready (rs := [0, 1]) (by kernel_rfl) (by simp) (AllReadyIn.cons rfl (fun K hK => ?_) (AllReadyIn.cons rfl (fun K hK => ?_) AllReadyIn.nil))
      · go_simp
        refine hK _ _ ?_; clear hK K
        refine wpAnyIn_ready (rs := [1]) (by kernel_rfl) (by simp) (AllReadyIn.cons rfl (fun K hK => ?_) AllReadyIn.nil)
        go_simp
        refine hK _ _ ?_; clear hK K
        refine wpAnyIn_ready (rs := [2]) (by kernel_rfl) (by simp) (AllReadyIn.cons rfl (fun K hK => ?_) AllReadyIn.nil)
        go_simp
        refine ⟨trivial, (CallsIn.inRound l (callsIn_wide.2 (own_any t' A4 A5 n4 c4 n5 c5 b' r' _ (HX.out.2.2.2.2.2.2.2.2.2.1.up (Below.drew HX.out.1)) (HX.out.2.2.2.2.2.2.2.2.2.2.up (Below.drew HX.out.1)) hn4 hn5))).mono ?_⟩
        rintro e w5 ⟨A6, n6, c6, A7, n7, c7, rfl, ho5, hb5⟩
        obtain ⟨hcv5, hfv5, hBv5, hzv5⟩ := (HX.out.2.2.1.drew).box hb5 hvl
        obtain ⟨hce5, hfe5, hBe5, hze5⟩ := (HX.out.2.1.drew).box hb5 hel
        have H5 := Lib.hid (And.intro ho5 (And.intro hb5 (And.intro hBv5 hBe5)))
        clear ho5 hb5 hBv5 hBe5 hcv hfv hce hfe hcx hfx
        refine hK _ _ ?_; clear hK K
        refine wpAnyIn_ready (rs := [3]) (by kernel_rfl) (by simp) (AllReadyIn.cons rfl (fun K hK => ?_) AllReadyIn.nil)
        go_simp
        refine hK _ _ ?_; clear hK K
        refine wpAnyIn_ready (rs := [4]) (by kernel_rfl) (by simp) (AllReadyIn.cons rfl (fun K hK => ?_) AllReadyIn.nil)
        have hown5 : OwnC 50 3 (w5.alloc (.cells #[.int .u8 (t'.toNat : Int), .slice A6 n6 c6, .slice A7 n7 c7] 50)) w1.heap.size W.heap.size v l'.length (l'.flatMap EI.cells) := HX.out.2.2.2.1.1.keepRows (KeepRows.trans (KeepRows.below (Below.drew (Below.refl _ _)) (Nat.le_refl _)) (KeepRows.trans (KeepRows.below H5.out.2.1 (Nat.le_refl _)) (KeepRows.alloc _ _)))
        have HOW := Lib.hid hown5
        clear hown5
        refine stepIn_appC rfl (.tmp 12) (.tmp 15) 82 rfl 50 _ 3 56 elem_info Try.underlying82 rfl (by omega) w1.heap.size W.heap.size v l'.length (l'.flatMap EI.cells) (by rfl) HOW.out (by simp; omega) _ _ 1 1 [.int .u8 (t'.toNat : Int), .slice A6 n6 c6, .slice A7 n7 c7] (by rfl) (reads_three w5 50 _ _ _) (by simp [Value.oneCell']) (by omega) (by omega) ?_
        intro v6 w6 hown6 hg6 hat6 hb6
        obtain ⟨Av6, cv6, rfl, _, _, _, _⟩ := hown6.shape
        obtain ⟨hcv6, hfv6, hBv6, hzv6⟩ := (H5.out.2.2.1.alloc (.cells #[.int .u8 (t'.toNat : Int), .slice A6 n6 c6, .slice A7 n7 c7] 50)).box hb6 (by omega)
        obtain ⟨hce6, hfe6, hBe6, hze6⟩ := (H5.out.2.2.2.alloc (.cells #[.int .u8 (t'.toNat : Int), .slice A6 n6 c6, .slice A7 n7 c7] 50)).box hb6 (by omega)
        have H6 := Lib.hid (And.intro hown6 (And.intro hg6 (And.intro hb6 (And.intro hBv6 hBe6))))
        clear hown6 hg6 hat6 hb6 hBv6 hBe6 hcv5 hfv5 hce5 hfe5
        refine hK _ _ ?_; clear hK K
        refine wpAnyIn_ready (rs := [5]) (by kernel_rfl) (by simp) (AllReadyIn.cons rfl (fun K hK => ?_) AllReadyIn.nil)
        go_simp
        refine hK _ _ ?_; clear hK K
        refine wpAnyIn_done (by kernel_rfl) ?_ _
        exact all_round HX.out.1 HX.out.2.1 HX.out.2.2.1 HX.out.2.2.2.1 HX.out.2.2.2.2.1 HX.out.2.2.2.2.2.1 HX.out.2.2.2.2.2.2.1 HX.out.2.2.2.2.2.2.2.1 hN hs1 H5.out.1 H5.out.2.1 H6.out.1 H6.out.2.1 H6.out.2.2.1
      · go_simp
        refine hK _ _ ?_; clear hK K
        refine wpAnyIn_ready (rs := [0, 2]) (by kernel_rfl) (by simp) (AllReadyIn.cons rfl (fun K hK => ?_) (AllReadyIn.cons rfl (fun K hK => ?_) AllReadyIn.nil))
        · go_simp
          refine hK _ _ ?_; clear hK K
          refine wpAnyIn_ready (rs := [2]) (by kernel_rfl) (by simp) (AllReadyIn.cons rfl (fun K hK => ?_) AllReadyIn.nil)
          go_simp
          refine ⟨trivial, (CallsIn.inRound l (callsIn_wide.2 (own_any t' A4 A5 n4 c4 n5 c5 b' r' _ (HX.out.2.2.2.2.2.2.2.2.2.1.up (Below.drew HX.out.1)) (HX.out.2.2.2.2.2.2.2.2.2.2.up (Below.drew HX.out.1)) hn4 hn5))).mono ?_⟩
          rintro e w5 ⟨A6, n6, c6, A7, n7, c7, rfl, ho5, hb5⟩
          obtain ⟨hcv5, hfv5, hBv5, hzv5⟩ := (HX.out.2.2.1.drew).box hb5 hvl
          obtain ⟨hce5, hfe5, hBe5, hze5⟩ := (HX.out.2.1.drew).box hb5 hel
          have H5 := Lib.hid (And.intro ho5 (And.intro hb5 (And.intro hBv5 hBe5)))
          clear ho5 hb5 hBv5 hBe5 hcv hfv hce hfe hcx hfx
          refine hK _ _ ?_; clear hK K
          refine wpAnyIn_ready (rs := [3]) (by kernel_rfl) (by simp) (AllReadyIn.cons rfl (fun K hK => ?_) AllReadyIn.nil)
          go_simp
          refine hK _ _ ?_; clear hK K
          refine wpAnyIn_ready (rs := [4]) (by kernel_rfl) (by simp) (AllReadyIn.cons rfl (fun K hK => ?_) AllReadyIn.nil)
          have hown5 : OwnC 50 3 (w5.alloc (.cells #[.int .u8 (t'.toNat : Int), .slice A6 n6 c6, .slice A7 n7 c7] 50)) w1.heap.size W.heap.size v l'.length (l'.flatMap EI.cells) := HX.out.2.2.2.1.1.keepRows (KeepRows.trans (KeepRows.below (Below.drew (Below.refl _ _)) (Nat.le_refl _)) (KeepRows.trans (KeepRows.below H5.out.2.1 (Nat.le_refl _)) (KeepRows.alloc _ _)))
          have HOW := Lib.hid hown5
          clear hown5
          refine stepIn_appC rfl (.tmp 12) (.tmp 15) 82 rfl 50 _ 3 56 elem_info Try.underlying82 rfl (by omega) w1.heap.size W.heap.size v l'.length (l'.flatMap EI.cells) (by rfl) HOW.out (by simp; omega) _ _ 1 1 [.int .u8 (t'.toNat : Int), .slice A6 n6 c6, .slice A7 n7 c7] (by rfl) (reads_three w5 50 _ _ _) (by simp [Value.oneCell']) (by omega) (by omega) ?_
          intro v6 w6 hown6 hg6 hat6 hb6
          obtain ⟨Av6, cv6, rfl, _, _, _, _⟩ := hown6.shape
          obtain ⟨hcv6, hfv6, hBv6, hzv6⟩ := (H5.out.2.2.1.alloc (.cells #[.int .u8 (t'.toNat : Int), .slice A6 n6 c6, .slice A7 n7 c7] 50)).box hb6 (by omega)
          obtain ⟨hce6, hfe6, hBe6, hze6⟩ := (H5.out.2.2.2.alloc (.cells #[.int .u8 (t'.toNat : Int), .slice A6 n6 c6, .slice A7 n7 c7] 50)).box hb6 (by omega)
          have H6 := Lib.hid (And.intro hown6 (And.intro hg6 (And.intro hb6 (And.intro hBv6 hBe6))))
          clear hown6 hg6 hat6 hb6 hBv6 hBe6 hcv5 hfv5 hce5 hfe5
          refine hK _ _ ?_; clear hK K
          refine wpAnyIn_ready (rs := [5]) (by kernel_rfl) (by simp) (AllReadyIn.cons rfl (fun K hK => ?_) AllReadyIn.nil)
          go_simp
          refine hK _ _ ?_; clear hK K
          refine wpAnyIn_done (by kernel_rfl) ?_ _
          exact all_round HX.out.1 HX.out.2.1 HX.out.2.2.1 HX.out.2.2.2.1 HX.out.2.2.2.2.1 HX.out.2.2.2.2.2.1 HX.out.2.2.2.2.2.2.1 HX.out.2.2.2.2.2.2.2.1 hN hs1 H5.out.1 H5.out.2.1 H6.out.1 H6.out.2.1 H6.out.2.2.1
        · go_simp
          refine ⟨trivial, (CallsIn.inRound l (callsIn_wide.2 (own_any t' A4 A5 n4 c4 n5 c5 b' r' _ (HX.out.2.2.2.2.2.2.2.2.2.1.up (Below.drew HX.out.1)) (HX.out.2.2.2.2.2.2.2.2.2.2.up (Below.drew HX.out.1)) hn4 hn5))).mono ?_⟩
          rintro e w5 ⟨A6, n6, c6, A7, n7, c7, rfl, ho5, hb5⟩
          obtain ⟨hcv5, hfv5, hBv5, hzv5⟩ := (HX.out.2.2.1.drew).box hb5 hvl
          obtain ⟨hce5, hfe5, hBe5, hze5⟩ := (HX.out.2.1.drew).box hb5 hel
          have H5 := Lib.hid (And.intro ho5 (And.intro hb5 (And.intro hBv5 hBe5)))
          clear ho5 hb5 hBv5 hBe5 hcv hfv hce hfe hcx hfx
          refine hK _ _ ?_; clear hK K
          refine wpAnyIn_ready (rs := [0, 3]) (by kernel_rfl) (by simp) (AllReadyIn.cons rfl (fun K hK => ?_) (AllReadyIn.cons rfl (fun K hK => ?_) AllReadyIn.nil))
          · go_simp
            refine hK _ _ ?_; clear hK K
            refine wpAnyIn_ready (rs := [3]) (by kernel_rfl) (by simp) (AllReadyIn.cons rfl (fun K hK => ?_) AllReadyIn.nil)
            go_simp
            refine hK _ _ ?_; clear hK K
            refine wpAnyIn_ready (rs := [4]) (by kernel_rfl) (by simp) (AllReadyIn.cons rfl (fun K hK => ?_) AllReadyIn.nil)
            have hown5 : OwnC 50 3 (w5.alloc (.cells #[.int .u8 (t'.toNat : Int), .slice A6 n6 c6, .slice A7 n7 c7] 50)) w1.heap.size W.heap.size v l'.length (l'.flatMap EI.cells) := HX.out.2.2.2.1.1.keepRows (KeepRows.trans (KeepRows.below (Below.drew (Below.refl _ _)) (Nat.le_refl _)) (KeepRows.trans (KeepRows.below H5.out.2.1 (Nat.le_refl _)) (KeepRows.alloc _ _)))
            have HOW := Lib.hid hown5
            clear hown5
            refine stepIn_appC rfl (.tmp 12) (.tmp 15) 82 rfl 50 _ 3 56 elem_info Try.underlying82 rfl (by omega) w1.heap.size W.heap.size v l'.length (l'.flatMap EI.cells) (by rfl) HOW.out (by simp; omega) _ _ 1 1 [.int .u8 (t'.toNat : Int), .slice A6 n6 c6, .slice A7 n7 c7] (by rfl) (reads_three w5 50 _ _ _) (by simp [Value.oneCell']) (by omega) (by omega) ?_
            intro v6 w6 hown6 hg6 hat6 hb6
            obtain ⟨Av6, cv6, rfl, _, _, _, _⟩ := hown6.shape
            obtain ⟨hcv6, hfv6, hBv6, hzv6⟩ := (H5.out.2.2.1.alloc (.cells #[.int .u8 (t'.toNat : Int), .slice A6 n6 c6, .slice A7 n7 c7] 50)).box hb6 (by omega)
            obtain ⟨hce6, hfe6, hBe6, hze6⟩ := (H5.out.2.2.2.alloc (.cells #[.int .u8 (t'.toNat : Int), .slice A6 n6 c6, .slice A7 n7 c7] 50)).box hb6 (by omega)
            have H6 := Lib.hid (And.intro hown6 (And.intro hg6 (And.intro hb6 (And.intro hBv6 hBe6))))
            clear hown6 hg6 hat6 hb6 hBv6 hBe6 hcv5 hfv5 hce5 hfe5
            refine hK _ _ ?_; clear hK K
            refine wpAnyIn_ready (rs := [5]) (by kernel_rfl) (by simp) (AllReadyIn.cons rfl (fun K hK => ?_) AllReadyIn.nil)
            go_simp
            refine hK _ _ ?_; clear hK K
            refine wpAnyIn_done (by kernel_rfl) ?_ _
            exact all_round HX.out.1 HX.out.2.1 HX.out.2.2.1 HX.out.2.2.2.1 HX.out.2.2.2.2.1 HX.out.2.2.2.2.2.1 HX.out.2.2.2.2.2.2.1 HX.out.2.2.2.2.2.2.2.1 hN hs1 H5.out.1 H5.out.2.1 H6.out.1 H6.out.2.1 H6.out.2.2.1
          · go_simp
            refine hK _ _ ?_; clear hK K
            refine wpAnyIn_ready (rs := [0]) (by kernel_rfl) (by simp) (AllReadyIn.cons rfl (fun K hK => ?_) AllReadyIn.nil)
            go_simp
            refine hK _ _ ?_; clear hK K
            refine wpAnyIn_ready (rs := [4]) (by kernel_rfl) (by simp) (AllReadyIn.cons rfl (fun K hK => ?_) AllReadyIn.nil)
            have hown5 : OwnC 50 3 (w5.alloc (.cells #[.int .u8 (t'.toNat : Int), .slice A6 n6 c6, .slice A7 n7 c7] 50)) w1.heap.size W.heap.size v l'.length (l'.flatMap EI.cells) := HX.out.2.2.2.1.1.keepRows (KeepRows.trans (KeepRows.below (Below.drew (Below.refl _ _)) (Nat.le_refl _)) (KeepRows.trans (KeepRows.below H5.out.2.1 (Nat.le_refl _)) (KeepRows.alloc _ _)))
            have HOW := Lib.hid hown5
            clear hown5
            refine stepIn_appC rfl (.tmp 12) (.tmp 15) 82 rfl 50 _ 3 56 elem_info Try.underlying82 rfl (by omega) w1.heap.size W.heap.size v l'.length (l'.flatMap EI.cells) (by rfl) HOW.out (by simp; omega) _ _ 1 1 [.int .u8 (t'.toNat : Int), .slice A6 n6 c6, .slice A7 n7 c7] (by rfl) (reads_three w5 50 _ _ _) (by simp [Value.oneCell']) (by omega) (by omega) ?_
            intro v6 w6 hown6 hg6 hat6 hb6
            obtain ⟨Av6, cv6, rfl, _, _, _, _⟩ := hown6.shape
            obtain ⟨hcv6, hfv6, hBv6, hzv6⟩ := (H5.out.2.2.1.alloc (.cells #[.int .u8 (t'.toNat : Int), .slice A6 n6 c6, .slice A7 n7 c7] 50)).box hb6 (by omega)
            obtain ⟨hce6, hfe6, hBe6, hze6⟩ := (H5.out.2.2.2.alloc (.cells #[.int .u8 (t'.toNat : Int), .slice A6 n6 c6, .slice A7 n7 c7] 50)).box hb6 (by omega)
            have H6 := Lib.hid (And.intro hown6 (And.intro hg6 (And.intro hb6 (And.intro hBv6 hBe6))))
            clear hown6 hg6 hat6 hb6 hBv6 hBe6 hcv5 hfv5 hce5 hfe5
            refine hK _ _ ?_; clear hK K
            refine wpAnyIn_ready (rs := [5]) (by kernel_rfl) (by simp) (AllReadyIn.cons rfl (fun K hK => ?_) AllReadyIn.nil)
            go_simp
            refine hK _ _ ?_; clear hK K
            refine wpAnyIn_done (by kernel_rfl) ?_ _
            exact all_round HX.out.1 HX.out.2.1 HX.out.2.2.1 HX.out.2.2.2.1 HX.out.2.2.2.2.1 HX.out.2.2.2.2.2.1 HX.out.2.2.2.2.2.2.1 HX.out.2.2.2.2.2.2.2.1 hN hs1 H5.out.1 H5.out.2.1 H6.out.1 H6.out.2.1 H6.out.2.2.1
  case done =>
    rintro D ys W hD hys ⟨hok, hb, he, v, l', hv, hd, hE, hN⟩ hK
    obtain ⟨Av, cv, rfl, _, _, _, _⟩ := hE.1.shape
    obtain ⟨hcv, hfv⟩ := hv.facts
    obtain ⟨hce, hfe⟩ := he.facts
    have hvl := hv.lt
    have hel := he.lt
    have hv2 : Blk ((W.setCell ⟨w.heap.size, 0, none⟩ (.slice Av l'.length cv)).setCell ⟨w.heap.size + 1, 0, none⟩ (.int .i64 0)) w.heap.size 82 #[.slice Av l'.length cv] := by
      simpa using (hv.set_ 0 (.slice Av l'.length cv)).far (p := ⟨w.heap.size + 1, 0, none⟩) (by simp) (.int .i64 0)
    have he2 : Blk ((W.setCell ⟨w.heap.size, 0, none⟩ (.slice Av l'.length cv)).setCell ⟨w.heap.size + 1, 0, none⟩ (.int .i64 0)) (w.heap.size + 1) 33 #[.int .i64 0] := by
      simpa using (he.far (p := ⟨w.heap.size, 0, none⟩) (by simp) (.slice Av l'.length cv)).set_ 0 (.int .i64 0)
    have hb2 : Below w.heap.size w ((W.setCell ⟨w.heap.size, 0, none⟩ (.slice Av l'.length cv)).setCell ⟨w.heap.size + 1, 0, none⟩ (.int .i64 0)) := (hb.setCell (by simp) _).setCell (by simp) _
    have hE2 : OwnE ((W.setCell ⟨w.heap.size, 0, none⟩ (.slice Av l'.length cv)).setCell ⟨w.heap.size + 1, 0, none⟩ (.int .i64 0)) w1.heap.size W.heap.size (.slice Av l'.length cv) l' :=
      hE.keepRows (KeepRows.trans (KeepRows.setCell (by simp; omega) _) (KeepRows.setCell (by simp; omega) _))
    have hK2 : ((W.setCell ⟨w.heap.size, 0, none⟩ (.slice Av l'.length cv)).setCell ⟨w.heap.size + 1, 0, none⟩ (.int .i64 0)).heap[D]? = some (.deferred (some [])) :=
      (Below.heap_setCell _ _ _ _ (by simp; omega)).trans ((Below.heap_setCell _ _ _ _ (by simp; omega)).trans hK)
    have hI2 : AllI w1.heap.size w ys ((W.setCell ⟨w.heap.size, 0, none⟩ (.slice Av l'.length cv)).setCell ⟨w.heap.size + 1, 0, none⟩ (.int .i64 0)) := ⟨hb2, he2, _, l', hv2, hd, hE2.mono (Nat.le_refl _) (by simp), by simpa using hN⟩
    have hP := hI2.put (.deferred none) hK2 rfl (by omega)
    have hg := grownBy_putObj' ((W.setCell ⟨w.heap.size, 0, none⟩ (.slice Av l'.length cv)).setCell ⟨w.heap.size + 1, 0, none⟩ (.int .i64 0)) D (.deferred none)
    obtain ⟨hcv4, hfv4⟩ := (hv2.grown hg (by simp; omega)).facts
    obtain ⟨hce4, hfe4⟩ := (he2.grown hg (by simp; omega)).facts
    have hbp := hP.1
    have hEp := (hE2.keepRows (KeepRows.put (.deferred none) hK2 rfl)).mono (lo' := w.heap.size) (hi' := (((W.setCell ⟨w.heap.size, 0, none⟩ (.slice Av l'.length cv)).setCell ⟨w.heap.size + 1, 0, none⟩ (.int .i64 0)).putObj D (.deferred none)).heap.size) (by omega) (by simp)
    have HP := Lib.hid (And.intro hbp (And.intro hEp (And.intro hK2 (And.intro hys hd))))
    clear hb he hv hE hK hb2 he2 hv2 hE2 hK2 hI2 hP hg hbp hEp hys hd hok
    gi_wp2
    refine ⟨by simp, .inl ⟨_, _, rfl, run_takeDeferred HP.out.2.2.1, ?_⟩⟩
    refine ⟨.tuple #[.slice Av l'.length cv, .int .i64 0], by simp [results, Try.results61, go_sem, hcv4, hce4], HP.out.1, .inr ⟨l', _, _, _, ?_, rfl, HP.out.2.1⟩⟩
    rw [← HP.out.2.2.2.1, HP.out.2.2.2.2]
  case stop =>
    rintro D c pre W hD ⟨rfl, hany, hb, he, hv⟩ hK
    have hg := grownBy_putObj' W D (.deferred none)
    have hne0 : w.heap.size ≠ D := by omega
    have hne1 : w.heap.size + 1 ≠ D := by omega
    have hbp := hb.grown hg hb.size (fun k e => by injection e with e; omega)
    have hvp : Blk (W.putObj D (.deferred none)) w.heap.size 82 #[.slice none 0 0] := hv.grown hg (by simp; omega)
    have hep : Blk (W.putObj D (.deferred none)) (w.heap.size + 1) 33 #[.int .i64 9] := he.grown hg (by simp; omega)
    obtain ⟨hcv, hfv⟩ := hvp.facts
    obtain ⟨hce, hfe⟩ := hep.facts
    have HP := Lib.hid (And.intro hbp (And.intro hany hK))
    clear hbp hany hK hb he hv hvp hep hg
    gi_wp2
    refine ⟨by simp, .inl ⟨_, _, rfl, run_takeDeferred HP.out.2.2, ?_⟩⟩
    refine ⟨.tuple #[.slice none 0 0, .int .i64 9], by simp [results, Try.results61, go_sem, hcv, hce], HP.out.1, .inl ⟨HP.out.2.1, rfl⟩⟩
end Go.Proofs.Ytmnekhliblkibaa
end
