/- The walk of the law DerDepth. -/
import Derived.Test.YtadkiildjehdmaaWorks
import Derived.Test.YtadkiildjehdmaaPlain1
import Derived.Test.YtadkiildjehdmaaEach
namespace Go.Proofs.Ytadkiildjehdmaa
open Go.RowKit
set_option maxRecDepth 1000000
set_option linter.unusedVariables false
set_option linter.unusedSimpArgs false

def DepthPost (w : World) (e : Ending) (w' : World) : Prop := e = .returned (.bool true) ∧ Below w.heap.size w w'

namespace Der
def tagAt (set : Bool) (i : Nat) : UInt8 := if set = true ∧ i % 2 = 0 then 163 else 48
def nest (set : Bool) (base : List UInt8) : Nat → List UInt8
  | 0 => base
  | i + 1 => write (tagAt set i) (nest set base i)
theorem tagAt_ok (set : Bool) (i : Nat) : (tagAt set i).toNat % 32 ≠ 31 ∧ (tagAt set i).toNat / 32 % 2 = 1 := by
  unfold tagAt
  split <;> decide
theorem nest_len (set : Bool) (base : List UInt8) (hb : base.length ≤ 10) : ∀ i, i ≤ 41 → (nest set base i).length ≤ 10 + 6 * i
  | 0, _ => by simpa [nest] using hb
  | i + 1, h => by
    have ih := nest_len set base hb i (by omega)
    have h5 := lenB_len (nest set base i).length (by omega)
    rw [nest, write_len]
    omega
theorem seq_write (t : UInt8) (b : List UInt8) (hb : b.length < 4294967296) (ht : t.toNat % 32 ≠ 31) : seq (write t b) = [some (t, b, write t b)] := by
  have he := elem_write' t b hb
  rw [if_neg ht] at he
  have hw := write_len t b
  unfold seq
  obtain ⟨k, hk⟩ : ∃ k, (write t b).length = k + 1 := ⟨(write t b).length - 1, by omega⟩
  rw [hk, seqF, if_neg (by intro e; rw [e, List.length_nil] at hw; omega), he]
  cases k <;> simp [seqF]
theorem thr_write (k : Nat) (t t' : UInt8) (b : List UInt8) (hb : b.length < 4294967296) (ht : t.toNat / 32 % 2 = 1) (ht' : t'.toNat % 32 ≠ 31) : thr (k + 1) t (write t' b) = thr k t' b := by
  have hw := write_len t' b
  have hl : leaf t (write t' b) = false := by
    cases he : write t' b with
    | nil => exfalso; rw [he, List.length_nil] at hw; omega
    | cons a r => simp [leaf, ht]
  rw [thr, hl, if_neg (by simp), seq_write t' b hb ht']
  simp only [List.any_cons, Option.isNone_some, List.any_nil, Bool.or_self, firstBad]
  by_cases h : thr k t' b = 0
  · simp [h]
  · simp [h]
theorem thr_write0 (t t' : UInt8) (b : List UInt8) (ht : t.toNat / 32 % 2 = 1) : thr 0 t (write t' b) = 10 := by
  have hw := write_len t' b
  have hl : leaf t (write t' b) = false := by
    cases he : write t' b with
    | nil => exfalso; rw [he, List.length_nil] at hw; omega
    | cons a r => simp [leaf, ht]
  rw [thr, hl, if_neg (by simp)]
theorem thr_nil (k : Nat) (t : UInt8) : thr k t [] = 0 := by
  cases k <;> simp [thr, leaf]
theorem thr_four (k : Nat) : thr k 4 [48, 9] = 0 := by
  cases k <;> simp [thr, leaf]
theorem thr_nest0 (set : Bool) : ∀ (i k : Nat) (t : UInt8), i ≤ 41 → t.toNat / 32 % 2 = 1 → thr k t (nest set [] i) = if i ≤ k then 0 else 10
  | 0, k, t, _, _ => by rw [nest, thr_nil, if_pos (by omega)]
  | i + 1, 0, t, h, ht => by rw [nest, thr_write0 _ _ _ ht, if_neg (by omega)]
  | i + 1, k + 1, t, h, ht => by
    have hl := nest_len set [] (by simp) i (by omega)
    rw [nest, thr_write k t _ _ (by omega) ht (tagAt_ok set i).1, thr_nest0 set i k _ (by omega) (tagAt_ok set i).2]
    by_cases h : i ≤ k
    · rw [if_pos h, if_pos (by omega)]
    · rw [if_neg h, if_neg (by omega)]
theorem thr_nest4 (set : Bool) : ∀ (i k : Nat) (t : UInt8), i ≤ 41 → t.toNat / 32 % 2 = 1 → thr k t (nest set (write 4 [48, 9]) i) = if i + 1 ≤ k then 0 else 10
  | 0, 0, t, _, ht => by rw [nest, thr_write0 _ _ _ ht, if_neg (by omega)]
  | 0, k + 1, t, _, ht => by rw [nest, thr_write k t _ _ (by simp) ht (by decide), thr_four, if_pos (by omega)]
  | i + 1, 0, t, h, ht => by rw [nest, thr_write0 _ _ _ ht, if_neg (by omega)]
  | i + 1, k + 1, t, h, ht => by
    have hl := nest_len set (write 4 [48, 9]) (by rw [write_len]; simp [lenB]) i (by omega)
    rw [nest, thr_write k t _ _ (by omega) ht (tagAt_ok set i).1, thr_nest4 set i k _ (by omega) (tagAt_ok set i).2]
    by_cases h : i + 1 ≤ k
    · rw [if_pos h, if_pos (by omega)]
    · rw [if_neg h, if_neg (by omega)]
theorem check_write (t : UInt8) (b : List UInt8) (hb : b.length < 4294967296) (ht : t.toNat % 32 ≠ 31) : check (write t b) = thr 15 t b := by
  have he := elem_write' t b hb
  rw [if_neg ht] at he
  rw [check, he]
  simp
theorem check_nest0 (set : Bool) (d : Nat) (h : d ≤ 40) : check (nest set [] d) = if d = 0 then 9 else if d ≤ 16 then 0 else 10 := by
  cases d with
  | zero => rw [if_pos rfl, nest]; decide +kernel
  | succ i =>
    have hl := nest_len set [] (by simp) i (by omega)
    rw [nest, check_write _ _ (by omega) (tagAt_ok set i).1, thr_nest0 set i 15 _ (by omega) (tagAt_ok set i).2, if_neg (show ¬ i + 1 = 0 by omega)]
    by_cases h : i ≤ 15
    · rw [if_pos h, if_pos (by omega)]
    · rw [if_neg h, if_neg (by omega)]
theorem check_nest4 (set : Bool) (d : Nat) (h : d ≤ 40) : check (nest set (write 4 [48, 9]) d) = if d + 1 ≤ 16 then 0 else 10 := by
  cases d with
  | zero => rw [nest, check_write _ _ (by simp) (by decide), thr_four, if_pos (by omega)]
  | succ i =>
    have hl := nest_len set (write 4 [48, 9]) (by rw [write_len]; simp [lenB]) i (by omega)
    rw [nest, check_write _ _ (by omega) (tagAt_ok set i).1, thr_nest4 set i 15 _ (by omega) (tagAt_ok set i).2]
    by_cases h : i + 1 ≤ 15
    · rw [if_pos h, if_pos (by omega)]
    · rw [if_neg h, if_neg (by omega)]
end Der

theorem depth_works (a0 : Int) (s i : Bool) (w : World) (h : a0 < 0 ∨ 40 < a0) :
    Calls Try.prog 5 #[.int .i64 a0, .bool s, .bool i] w (DepthPost w) := by
  by_cases h0 : a0 < 0
  · go_enter Try.func5, Try.ntmps5
    go_wp2_with fail
    refine (works_any w).mono ?_
    rintro e w1 ⟨rfl, hb1⟩
    go_wp2
    go_ret
    exact ⟨rfl, hb1⟩
  · have h1 : 40 < a0 := by omega
    have h0' : (a0 < 0) = False := by simp; omega
    go_enter Try.func5, Try.ntmps5
    go_wp2_with fail
    refine (works_any w).mono ?_
    rintro e w1 ⟨rfl, hb1⟩
    go_wp2
    go_ret
    exact ⟨rfl, hb1⟩

def DepthRel (set : Bool) (base : List UInt8) (w : World) (k : Nat) (v : Value) (wr : World) : Prop :=
  RdV wr wr.heap.size v (Der.nest set base k) ∧ Below w.heap.size w wr


set_option maxHeartbeats 1000000 in
theorem depth_plain (d : Nat) (s : Bool) (w : World) (h : d ≤ 40) :
    Calls Try.prog 5 #[.int .i64 (d : Int), .bool s, .bool false] w (DepthPost w) := by
  have h0 : ¬ (d : Int) < 0 := by omega
  have h1 : ¬ (40 : Int) < d := by omega
  have hrel0 : DepthRel s [] w 0 (.slice none 0 0) w := ⟨RdV.mk Rd.none_, Below.refl _ _⟩
  have HB : Hid (([] : List UInt8).length ≤ 10) := Lib.hid (by simp)
  go_enter Try.func5, Try.ntmps5
  go_wp2
  go_loopw [7, 9] (fun v i wr => ∃ k : Nat, k ≤ d ∧ i = .int .i64 k ∧ DepthRel s [] w k v wr) (fun _ i _ => d - (intOf i).toNat)
  case atStart => exact ⟨0, by omega, rfl, hrel0⟩
  case round =>
    obtain ⟨k, hk, rfl, ⟨A1, n1, c1, rfl, hr1⟩, hb1⟩ := hrel
    have hlen := hr1.len
    have hnl := Der.nest_len s [] HB.out k (by omega)
    by_cases hlt : k < d
    · have hlt' : (k : Int) < d := by omega
      have hn1 : n1 ≤ 1099511627000 := by omega
      have HR := Lib.hid (And.intro hr1 hb1)
      clear hr1 hb1 hlen hnl
      by_cases ht : s = true ∧ k % 2 = 0
      · obtain ⟨rfl, hk2⟩ := ht
        have e2 : ((k : Int) % 2 == 0) = true := by simp; omega
        have htag : Hid (Der.tagAt true k = 163) := by unfold Der.tagAt; rw [if_pos ⟨rfl, hk2⟩]; exact Lib.hid rfl
        go_wp2_with fail
        refine (write_any 163 _ n1 c1 _ _ HR.out.1 (by omega)).mono ?_
        rintro e w2 ⟨A2, n2, c2, rfl, ho2, hb2⟩
        go_wp2
        go_roundw
        case rel => exact ⟨k + 1, by omega, by go_num, by rw [Der.nest, htag.out]; exact ho2.rd, HR.out.2.trans (hb2.mono HR.out.2.size)⟩
        case measure => simp [intOf]; omega
      · have htag : Hid (Der.tagAt s k = 48) := by unfold Der.tagAt; rw [if_neg ht]; exact Lib.hid rfl
        cases s with
        | false =>
          go_wp2_with fail
          refine (write_any 48 _ n1 c1 _ _ HR.out.1 (by omega)).mono ?_
          rintro e w2 ⟨A2, n2, c2, rfl, ho2, hb2⟩
          go_wp2
          go_roundw
          case rel => exact ⟨k + 1, by omega, by go_num, by rw [Der.nest, htag.out]; exact ho2.rd, HR.out.2.trans (hb2.mono HR.out.2.size)⟩
          case measure => simp [intOf]; omega
        | true =>
          have e2 : ((k : Int) % 2 == 0) = false := by
            have : k % 2 ≠ 0 := fun e => ht ⟨rfl, e⟩
            simp; omega
          go_wp2_with fail
          refine (write_any 48 _ n1 c1 _ _ HR.out.1 (by omega)).mono ?_
          rintro e w2 ⟨A2, n2, c2, rfl, ho2, hb2⟩
          go_wp2
          go_roundw
          case rel => exact ⟨k + 1, by omega, by go_num, by rw [Der.nest, htag.out]; exact ho2.rd, HR.out.2.trans (hb2.mono HR.out.2.size)⟩
          case measure => simp [intOf]; omega
    · obtain rfl : k = d := by omega
      have hc := Der.check_nest0 s k (by omega)
      have HR := Lib.hid (And.intro hr1 (And.intro hb1 hc))
      clear hr1 hb1 hlen hnl hc
      go_wp2_with fail
      refine (check_any _ n1 c1 _ _ HR.out.1).mono ?_
      rintro e w2 ⟨rfl, hb2⟩
      rw [HR.out.2.2]
      have hbw := HR.out.2.1.trans (hb2.mono HR.out.2.1.size)
      clear hb2
      by_cases z0 : k = 0
      · rw [if_pos z0]
        subst z0
        go_wp2_with fail
        refine (works_any _).mono ?_
        rintro e w3 ⟨rfl, hb3⟩
        go_wp2
        go_ret
        exact ⟨rfl, hbw.trans (hb3.mono hbw.size)⟩
      · rw [if_neg z0]
        have z0' : ((k : Int) == 0) = false := by simp; omega
        by_cases z1 : k ≤ 16
        · rw [if_pos z1]
          have z1' : (k : Int) ≤ 16 := by omega
          go_wp2_with fail
          refine (works_any _).mono ?_
          rintro e w3 ⟨rfl, hb3⟩
          go_wp2
          go_ret
          exact ⟨rfl, hbw.trans (hb3.mono hbw.size)⟩
        · rw [if_neg z1]
          have z1' : ¬ (k : Int) ≤ 16 := by omega
          go_wp2_with fail
          refine (works_any _).mono ?_
          rintro e w3 ⟨rfl, hb3⟩
          go_wp2
          go_ret
          exact ⟨rfl, hbw.trans (hb3.mono hbw.size)⟩

set_option maxHeartbeats 1000000 in
theorem depth_inner (d : Nat) (s : Bool) (w : World) (h : d ≤ 40) :
    Calls Try.prog 5 #[.int .i64 (d : Int), .bool s, .bool true] w (DepthPost w) := by
  have h0 : ¬ (d : Int) < 0 := by omega
  have h1 : ¬ (40 : Int) < d := by omega
  have HB : Hid ((Der.write 4 [48, 9]).length ≤ 10) := Lib.hid (by rw [Der.write_len]; simp [Der.lenB])
  have HP := Lib.hid (Rd.lit w 5 [48, 9] [.int .u8 48, .int .u8 9] _ 2 rfl rfl rfl (by omega))
  go_enter Try.func5, Try.ntmps5
  go_wp2_with fail
  refine (write_any 4 _ 2 2 _ _ HP.out (by omega)).mono ?_
  rintro e w1 ⟨A1, n1, c1, rfl, ho1, hb1⟩
  have hrel0 : DepthRel s (Der.write 4 [48, 9]) w 0 (.slice A1 n1 c1) w1 := ⟨ho1.rd, Below.trans (by (repeat (first | exact Below.refl _ _ | assumption | (refine Below.setCell ?_ (by first | omega | (simp; done) | (simp; omega)) _) | (refine Below.alloc ?_ (by first | omega | (simp; done) | (simp; omega)) _) | (refine below_drewN ?_ _) | (refine Below.drew ?_)))) (hb1.mono (by simp))⟩
  clear ho1 hb1
  go_wp2
  go_loopw [7, 9] (fun v i wr => ∃ k : Nat, k ≤ d ∧ i = .int .i64 k ∧ DepthRel s (Der.write 4 [48, 9]) w k v wr) (fun _ i _ => d - (intOf i).toNat)
  case atStart => exact ⟨0, by omega, rfl, hrel0⟩
  case round =>
    obtain ⟨k, hk, rfl, ⟨A1, n1, c1, rfl, hr1⟩, hb1⟩ := hrel
    have hlen := hr1.len
    have hnl := Der.nest_len s (Der.write 4 [48, 9]) HB.out k (by omega)
    by_cases hlt : k < d
    · have hlt' : (k : Int) < d := by omega
      have hn1 : n1 ≤ 1099511627000 := by omega
      have HR := Lib.hid (And.intro hr1 hb1)
      clear hr1 hb1 hlen hnl
      by_cases ht : s = true ∧ k % 2 = 0
      · obtain ⟨rfl, hk2⟩ := ht
        have e2 : ((k : Int) % 2 == 0) = true := by simp; omega
        have htag : Hid (Der.tagAt true k = 163) := by unfold Der.tagAt; rw [if_pos ⟨rfl, hk2⟩]; exact Lib.hid rfl
        go_wp2_with fail
        refine (write_any 163 _ n1 c1 _ _ HR.out.1 (by omega)).mono ?_
        rintro e w2 ⟨A2, n2, c2, rfl, ho2, hb2⟩
        go_wp2
        go_roundw
        case rel => exact ⟨k + 1, by omega, by go_num, by rw [Der.nest, htag.out]; exact ho2.rd, HR.out.2.trans (hb2.mono HR.out.2.size)⟩
        case measure => simp [intOf]; omega
      · have htag : Hid (Der.tagAt s k = 48) := by unfold Der.tagAt; rw [if_neg ht]; exact Lib.hid rfl
        cases s with
        | false =>
          go_wp2_with fail
          refine (write_any 48 _ n1 c1 _ _ HR.out.1 (by omega)).mono ?_
          rintro e w2 ⟨A2, n2, c2, rfl, ho2, hb2⟩
          go_wp2
          go_roundw
          case rel => exact ⟨k + 1, by omega, by go_num, by rw [Der.nest, htag.out]; exact ho2.rd, HR.out.2.trans (hb2.mono HR.out.2.size)⟩
          case measure => simp [intOf]; omega
        | true =>
          have e2 : ((k : Int) % 2 == 0) = false := by
            have : k % 2 ≠ 0 := fun e => ht ⟨rfl, e⟩
            simp; omega
          go_wp2_with fail
          refine (write_any 48 _ n1 c1 _ _ HR.out.1 (by omega)).mono ?_
          rintro e w2 ⟨A2, n2, c2, rfl, ho2, hb2⟩
          go_wp2
          go_roundw
          case rel => exact ⟨k + 1, by omega, by go_num, by rw [Der.nest, htag.out]; exact ho2.rd, HR.out.2.trans (hb2.mono HR.out.2.size)⟩
          case measure => simp [intOf]; omega
    · obtain rfl : k = d := by omega
      have hc := Der.check_nest4 s k (by omega)
      have HR := Lib.hid (And.intro hr1 (And.intro hb1 hc))
      clear hr1 hb1 hlen hnl hc
      go_wp2_with fail
      refine (check_any _ n1 c1 _ _ HR.out.1).mono ?_
      rintro e w2 ⟨rfl, hb2⟩
      rw [HR.out.2.2]
      have hbw := HR.out.2.1.trans (hb2.mono HR.out.2.1.size)
      clear hb2
      have z0' : ((k : Int) + 1 == 0) = false := by simp; omega
      by_cases z1 : k + 1 ≤ 16
      · rw [if_pos z1]
        have z1' : (k : Int) + 1 ≤ 16 := by omega
        go_wp2_with fail
        refine (works_any _).mono ?_
        rintro e w3 ⟨rfl, hb3⟩
        go_wp2
        go_ret
        exact ⟨rfl, hbw.trans (hb3.mono hbw.size)⟩
      · rw [if_neg z1]
        have z1' : ¬ (k : Int) + 1 ≤ 16 := by omega
        go_wp2_with fail
        refine (works_any _).mono ?_
        rintro e w3 ⟨rfl, hb3⟩
        go_wp2
        go_ret
        exact ⟨rfl, hbw.trans (hb3.mono hbw.size)⟩

theorem derDepth_walk (w : World) (a0 : Int) (_w0 : (Lit.int .i64 a0).wf = true) (s i : Bool) :
    Calls Try.prog 5 #[.int .i64 a0, .bool s, .bool i] w fun e w' => e = .returned (.bool true) ∧ Below w.heap.size w w' := by
  by_cases h : a0 < 0 ∨ 40 < a0
  · exact depth_works a0 s i w h
  · obtain ⟨n, rfl⟩ := Int.eq_ofNat_of_zero_le (show 0 ≤ a0 by omega)
    cases i with
    | false => exact depth_plain n s w (by omega)
    | true => exact depth_inner n s w (by omega)
end Go.Proofs.Ytadkiildjehdmaa
