/- The walk of the law DerMinimal: the code. -/
import Derived.Test.YtadkiildjehdmaaMinimal
import Derived.Test.YtadkiildjehdmaaMem2
namespace Go.Proofs.Ytadkiildjehdmaa
open Go.RowKit
set_option maxRecDepth 1000000
set_option linter.unusedVariables false
set_option linter.unusedSimpArgs false

theorem reads_one_u8 (w : World) (t : TypeId) (z : Int) (x : UInt8) (hx : z = (x.toNat : Int)) : Reads (w.alloc (.cells #[.int .u8 z] t)) (w.heap.size + 1) 1 (some ⟨w.heap.size, 0, none⟩) 1 ([x].map bv) := by
  subst hx
  exact Reads.one w t _
theorem low0 (n : Nat) : (Der.low n 0).toNat = n % 256 := by simp [Der.low, UInt8.toNat_ofNat']
theorem low1 (n : Nat) : (Der.low n 1).toNat = n / 256 % 256 := by simp [Der.low, UInt8.toNat_ofNat']
theorem low2 (n : Nat) : (Der.low n 2).toNat = n / 65536 % 256 := by simp [Der.low, UInt8.toNat_ofNat']
theorem low3 (n : Nat) : (Der.low n 3).toNat = n / 16777216 % 256 := by simp [Der.low, UInt8.toNat_ofNat']
theorem low4 (n i : Nat) (h : 4 ≤ i) : Der.low n i = 0 := by simp [Der.low]; omega

theorem min_works (t : UInt8) (n m : Int) (w : World) (h : t.toNat % 32 = 31 ∨ n < 0 ∨ 300 < n ∨ m < 0 ∨ 10 < m) :
    Calls Try.prog 7 #[.int .u8 (t.toNat : Int), .int .i64 n, .int .i64 m] w (MinPost w) := by
  by_cases h0 : t.toNat % 32 = 31
  · have c0 : ((t.toNat : Int) % 32 == 31) = true := by simp; omega
    go_enter Try.func7, Try.ntmps7
    go_wp2_with fail
    refine (works_any w).mono ?_
    rintro e w1 ⟨rfl, hb1⟩
    go_wp2
    go_ret
    exact ⟨rfl, hb1⟩
  by_cases h1 : n < 0
  · have c0 : ((t.toNat : Int) % 32 == 31) = false := by simp; omega
    have c1 : n < 0 := by omega
    go_enter Try.func7, Try.ntmps7
    go_wp2_with fail
    refine (works_any w).mono ?_
    rintro e w1 ⟨rfl, hb1⟩
    go_wp2
    go_ret
    exact ⟨rfl, hb1⟩
  by_cases h2 : 300 < n
  · have c0 : ((t.toNat : Int) % 32 == 31) = false := by simp; omega
    have c1 : ¬ n < 0 := by omega
    have c2 : 300 < n := by omega
    go_enter Try.func7, Try.ntmps7
    go_wp2_with fail
    refine (works_any w).mono ?_
    rintro e w1 ⟨rfl, hb1⟩
    go_wp2
    go_ret
    exact ⟨rfl, hb1⟩
  by_cases h3 : m < 0
  · have c0 : ((t.toNat : Int) % 32 == 31) = false := by simp; omega
    have c1 : ¬ n < 0 := by omega
    have c2 : ¬ 300 < n := by omega
    have c3 : m < 0 := by omega
    go_enter Try.func7, Try.ntmps7
    go_wp2_with fail
    refine (works_any w).mono ?_
    rintro e w1 ⟨rfl, hb1⟩
    go_wp2
    go_ret
    exact ⟨rfl, hb1⟩
  have c0 : ((t.toNat : Int) % 32 == 31) = false := by simp; omega
  have c1 : ¬ n < 0 := by omega
  have c2 : ¬ 300 < n := by omega
  have c3 : ¬ m < 0 := by omega
  have c4 : 10 < m := by omega
  go_enter Try.func7, Try.ntmps7
  go_wp2_with fail
  refine (works_any w).mono ?_
  rintro e w1 ⟨rfl, hb1⟩
  go_wp2
  go_ret
  exact ⟨rfl, hb1⟩

def MinRel (t : UInt8) (n m : Nat) (w : World) (k : Nat) (v : Value) (wr : World) : Prop :=
  OwnB wr w.heap.size wr.heap.size v ([t, UInt8.ofNat (128 + m)] ++ Der.lows n m k) ∧ Below w.heap.size w wr

set_option maxHeartbeats 4000000 in
theorem min_main (t : UInt8) (n m : Nat) (w : World) (hn : n ≤ 300) (hm : m ≤ 10) (ht : t.toNat % 32 ≠ 31) :
    Calls Try.prog 7 #[.int .u8 (t.toNat : Int), .int .i64 (n : Int), .int .i64 (m : Int)] w (MinPost w) := by
  have c0 : ((t.toNat : Int) % 32 == 31) = false := by simp; omega
  have c1 : ¬ (n : Int) < 0 := by omega
  have c2 : ¬ 300 < (n : Int) := by omega
  have c3 : ¬ (m : Int) < 0 := by omega
  have c4 : ¬ 10 < (m : Int) := by omega
  have HT := Lib.hid ht
  clear ht
  have hrel0 : ∀ z : Int, z = 128 + (m : Int) → MinRel t n m w m (.slice (some ⟨w.heap.size, 0, none⟩) 2 2) (w.alloc (.cells #[.int .u8 (t.toNat : Int), .int .u8 z] 5)) := by
    intro z hz
    refine ⟨?_, (Below.refl _ _).alloc (Nat.le_refl _) _⟩
    have := OwnB.lit w [t, UInt8.ofNat (128 + m)] [.int .u8 (t.toNat : Int), .int .u8 z] 2 (by simp [bv, UInt8.toNat_ofNat']; omega) rfl (by omega)
    rw [Der.lows_self, List.append_nil]
    simpa using this
  have HREL := Lib.hid hrel0
  clear hrel0
  go_enter Try.func7, Try.ntmps7
  go_wp2
  go_loopw [7, 8] (fun v i wr => ∃ k : Nat, k ≤ m ∧ i = .int .i64 ((k : Int) - 1) ∧ MinRel t n m w k v wr) (fun _ i _ => (intOf i + 1).toNat)
  case atStart => exact ⟨m, by omega, by go_num, HREL.out _ (by omega)⟩
  case round =>
    obtain ⟨k, hk, rfl, ho, hb⟩ := hrel
    have hlw := Der.lows_len n m k
    have hbs := hb.size
    have HO := Lib.hid (And.intro ho hb)
    clear ho hb
    by_cases hk0 : k = 0
    · subst hk0
      obtain ⟨g, cap, rfl, hg1, hg2⟩ := HO.out.1.1.form (by simp)
      have hln : ([t, UInt8.ofNat (128 + m)] ++ Der.lows n m 0).length = 2 + m := by simp [hlw]; omega
      obtain ⟨L, hL⟩ : ∃ L, 2 + m = L := ⟨_, rfl⟩
      rw [hL] at hln
      rw [hln] at HO
      rw [hln]
      have hc1 : L ≤ cap := by
        obtain ⟨_, _, _, e, hr⟩ := HO.out.1.rd
        injection e with e1 e2 e3
        rw [e2, e3]; exact hr.cap
      obtain ⟨A1, c1, wz, hrun, hoz, hbz⟩ := app_zeros wr 22 _ _ g L cap _ HO.out.1 (by omega) n (by omega)
      obtain ⟨L2, hL2⟩ : ∃ L2, L + n = L2 := ⟨_, rfl⟩
      rw [hL2] at hrun hoz
      obtain ⟨_, _, _, e, hrz⟩ := hoz.rd
      injection e with e1 e2 e3
      subst e1 e2 e3
      have HZ := Lib.hid (And.intro hrz (HO.out.2.trans hbz))
      have HRUN := Lib.hid hrun
      have hL2' : L2 ≤ 1099511627776 := by omega
      have HLL := Lib.hid (And.intro hL hL2)
      clear hrz hoz hbz hrun hln hg1 hg2 hL hL2 hlw
      by_cases r0 : n < 128
      · have d1 : ¬ (128 : Int) ≤ n := by omega
        have d2 : ¬ (256 : Int) ≤ n := by omega
        have hnd : Der.need n = 0 := by unfold Der.need; rw [if_neg (by omega), if_neg (by omega)]
        by_cases q : m = 0
        · have q' : ((m : Int) != 0) = false := by simp; omega
          have HQ := Lib.hid q
          have HN : Hid (¬ (m = Der.need n ∧ Der.need n ≠ 0)) := Lib.hid (by rw [hnd]; omega)
          clear q hnd
          go_wp2_with
            (at_builtin
             refine wpList_append_run rfl (.tmp 57) (.tmp 58) 22 3 rfl _ _ _ rfl rfl HRUN.out ?_)
          refine (parse_any A1 _ c1 _ _ HZ.out.1 hL2').mono ?_
          rintro e w2 ⟨hb2, HH⟩
          have HH := Lib.hid HH
          have hbw := HZ.out.2.trans (hb2.mono HZ.out.2.size)
          have hbs2 := hbw.size
          clear hb2
          rcases HH.out with ⟨hno, rfl⟩ | ⟨t', body, raw, rest, A2, n2, c2', A3, n3, c3', A4, n4, c4', hel, rfl, ho2⟩
          · clear hno
            go_wp2_with fail
            refine (works_any _).mono ?_
            rintro e w3 ⟨rfl, hb3⟩
            go_wp2
            go_ret
            exact ⟨rfl, hbw.trans (Below.trans (by (repeat (first | exact Below.refl _ _ | assumption | (refine Below.setCell ?_ (by first | omega | (simp; done) | (simp; omega)) _) | (refine Below.alloc ?_ (by first | omega | (simp; done) | (simp; omega)) _) | (refine below_drewN ?_ _) | (refine Below.drew ?_)))) (hb3.mono (by first | omega | (simp; done) | (simp; omega))))⟩
          · have := Der.elem_min_no t n m hn hm HN.out
            unfold Der.minB at this
            rw [this] at hel; cases hel
        · have q' : ((m : Int) != 0) = true := by simp; omega
          have HN : Hid (¬ (m = Der.need n ∧ Der.need n ≠ 0)) := Lib.hid (by rw [hnd]; omega)
          clear q hnd
          go_wp2_with
            (at_builtin
             refine wpList_append_run rfl (.tmp 57) (.tmp 58) 22 3 rfl _ _ _ rfl rfl HRUN.out ?_)
          refine (parse_any A1 _ c1 _ _ HZ.out.1 hL2').mono ?_
          rintro e w2 ⟨hb2, HH⟩
          have HH := Lib.hid HH
          have hbw := HZ.out.2.trans (hb2.mono HZ.out.2.size)
          have hbs2 := hbw.size
          clear hb2
          rcases HH.out with ⟨hno, rfl⟩ | ⟨t', body, raw, rest, A2, n2, c2', A3, n3, c3', A4, n4, c4', hel, rfl, ho2⟩
          · clear hno
            go_wp2_with fail
            refine (works_any _).mono ?_
            rintro e w3 ⟨rfl, hb3⟩
            go_wp2
            go_ret
            exact ⟨rfl, hbw.trans (Below.trans (by (repeat (first | exact Below.refl _ _ | assumption | (refine Below.setCell ?_ (by first | omega | (simp; done) | (simp; omega)) _) | (refine Below.alloc ?_ (by first | omega | (simp; done) | (simp; omega)) _) | (refine below_drewN ?_ _) | (refine Below.drew ?_)))) (hb3.mono (by first | omega | (simp; done) | (simp; omega))))⟩
          · have := Der.elem_min_no t n m hn hm HN.out
            unfold Der.minB at this
            rw [this] at hel; cases hel
      by_cases r1 : n < 256
      · have d1 : (128 : Int) ≤ n := by omega
        have d2 : ¬ (256 : Int) ≤ n := by omega
        have hnd : Der.need n = 1 := by unfold Der.need; rw [if_neg (by omega), if_pos (by omega)]
        by_cases q : m = 1
        · have q' : ((m : Int) != 1) = false := by simp; omega
          have HQ := Lib.hid q
          have HN : Hid (m = Der.need n ∧ Der.need n ≠ 0) := Lib.hid (by rw [hnd]; omega)
          clear q hnd
          go_wp2_with
            (at_builtin
             refine wpList_append_run rfl (.tmp 57) (.tmp 58) 22 3 rfl _ _ _ rfl rfl HRUN.out ?_)
          refine (parse_any A1 _ c1 _ _ HZ.out.1 hL2').mono ?_
          rintro e w2 ⟨hb2, HH⟩
          have HH := Lib.hid HH
          have hbw := HZ.out.2.trans (hb2.mono HZ.out.2.size)
          have hbs2 := hbw.size
          clear hb2
          obtain ⟨body', raw', rest', hel', hbl⟩ := Der.elem_min_yes t n m hn hm HN.out HT.out
          unfold Der.minB at hel'
          rcases HH.out with ⟨hno, rfl⟩ | ⟨t', body, raw, rest, A2, n2, c2', A3, n3, c3', A4, n4, c4', hel, rfl, ho2⟩
          · rw [hno] at hel'; cases hel'
          · rw [hel'] at hel
            simp only [Option.some.injEq, Prod.mk.injEq] at hel
            obtain ⟨rfl, rfl, rfl, rfl⟩ := hel
            obtain rfl : n2 = n := by rw [← hbl]; exact (ho2.rd (v := .slice A2 n2 c2') (xs := body') (by simp)).len.symm
            clear ho2 hel' hbl HZ HRUN
            go_wp2_with fail
            refine (works_any _).mono ?_
            rintro e w3 ⟨rfl, hb3⟩
            go_wp2
            go_ret
            exact ⟨rfl, hbw.trans (Below.trans (by (repeat (first | exact Below.refl _ _ | assumption | (refine Below.setCell ?_ (by first | omega | (simp; done) | (simp; omega)) _) | (refine Below.alloc ?_ (by first | omega | (simp; done) | (simp; omega)) _) | (refine below_drewN ?_ _) | (refine Below.drew ?_)))) (hb3.mono (by first | omega | (simp; done) | (simp; omega))))⟩
        · have q' : ((m : Int) != 1) = true := by simp; omega
          have HN : Hid (¬ (m = Der.need n ∧ Der.need n ≠ 0)) := Lib.hid (by rw [hnd]; omega)
          clear q hnd
          go_wp2_with
            (at_builtin
             refine wpList_append_run rfl (.tmp 57) (.tmp 58) 22 3 rfl _ _ _ rfl rfl HRUN.out ?_)
          refine (parse_any A1 _ c1 _ _ HZ.out.1 hL2').mono ?_
          rintro e w2 ⟨hb2, HH⟩
          have HH := Lib.hid HH
          have hbw := HZ.out.2.trans (hb2.mono HZ.out.2.size)
          have hbs2 := hbw.size
          clear hb2
          rcases HH.out with ⟨hno, rfl⟩ | ⟨t', body, raw, rest, A2, n2, c2', A3, n3, c3', A4, n4, c4', hel, rfl, ho2⟩
          · clear hno
            go_wp2_with fail
            refine (works_any _).mono ?_
            rintro e w3 ⟨rfl, hb3⟩
            go_wp2
            go_ret
            exact ⟨rfl, hbw.trans (Below.trans (by (repeat (first | exact Below.refl _ _ | assumption | (refine Below.setCell ?_ (by first | omega | (simp; done) | (simp; omega)) _) | (refine Below.alloc ?_ (by first | omega | (simp; done) | (simp; omega)) _) | (refine below_drewN ?_ _) | (refine Below.drew ?_)))) (hb3.mono (by first | omega | (simp; done) | (simp; omega))))⟩
          · have := Der.elem_min_no t n m hn hm HN.out
            unfold Der.minB at this
            rw [this] at hel; cases hel
      have d1 : (128 : Int) ≤ n := by omega
      have d2 : (256 : Int) ≤ n := by omega
      have hnd : Der.need n = 2 := by unfold Der.need; rw [if_pos (by omega)]
      by_cases q : m = 2
      · have q' : ((m : Int) != 2) = false := by simp; omega
        have HQ := Lib.hid q
        have HN : Hid (m = Der.need n ∧ Der.need n ≠ 0) := Lib.hid (by rw [hnd]; omega)
        clear q hnd
        go_wp2_with
          (at_builtin
           refine wpList_append_run rfl (.tmp 57) (.tmp 58) 22 3 rfl _ _ _ rfl rfl HRUN.out ?_)
        refine (parse_any A1 _ c1 _ _ HZ.out.1 hL2').mono ?_
        rintro e w2 ⟨hb2, HH⟩
        have HH := Lib.hid HH
        have hbw := HZ.out.2.trans (hb2.mono HZ.out.2.size)
        have hbs2 := hbw.size
        clear hb2
        obtain ⟨body', raw', rest', hel', hbl⟩ := Der.elem_min_yes t n m hn hm HN.out HT.out
        unfold Der.minB at hel'
        rcases HH.out with ⟨hno, rfl⟩ | ⟨t', body, raw, rest, A2, n2, c2', A3, n3, c3', A4, n4, c4', hel, rfl, ho2⟩
        · rw [hno] at hel'; cases hel'
        · rw [hel'] at hel
          simp only [Option.some.injEq, Prod.mk.injEq] at hel
          obtain ⟨rfl, rfl, rfl, rfl⟩ := hel
          obtain rfl : n2 = n := by rw [← hbl]; exact (ho2.rd (v := .slice A2 n2 c2') (xs := body') (by simp)).len.symm
          clear ho2 hel' hbl HZ HRUN
          go_wp2_with fail
          refine (works_any _).mono ?_
          rintro e w3 ⟨rfl, hb3⟩
          go_wp2
          go_ret
          exact ⟨rfl, hbw.trans (Below.trans (by (repeat (first | exact Below.refl _ _ | assumption | (refine Below.setCell ?_ (by first | omega | (simp; done) | (simp; omega)) _) | (refine Below.alloc ?_ (by first | omega | (simp; done) | (simp; omega)) _) | (refine below_drewN ?_ _) | (refine Below.drew ?_)))) (hb3.mono (by first | omega | (simp; done) | (simp; omega))))⟩
      · have q' : ((m : Int) != 2) = true := by simp; omega
        have HN : Hid (¬ (m = Der.need n ∧ Der.need n ≠ 0)) := Lib.hid (by rw [hnd]; omega)
        clear q hnd
        go_wp2_with
          (at_builtin
           refine wpList_append_run rfl (.tmp 57) (.tmp 58) 22 3 rfl _ _ _ rfl rfl HRUN.out ?_)
        refine (parse_any A1 _ c1 _ _ HZ.out.1 hL2').mono ?_
        rintro e w2 ⟨hb2, HH⟩
        have HH := Lib.hid HH
        have hbw := HZ.out.2.trans (hb2.mono HZ.out.2.size)
        have hbs2 := hbw.size
        clear hb2
        rcases HH.out with ⟨hno, rfl⟩ | ⟨t', body, raw, rest, A2, n2, c2', A3, n3, c3', A4, n4, c4', hel, rfl, ho2⟩
        · clear hno
          go_wp2_with fail
          refine (works_any _).mono ?_
          rintro e w3 ⟨rfl, hb3⟩
          go_wp2
          go_ret
          exact ⟨rfl, hbw.trans (Below.trans (by (repeat (first | exact Below.refl _ _ | assumption | (refine Below.setCell ?_ (by first | omega | (simp; done) | (simp; omega)) _) | (refine Below.alloc ?_ (by first | omega | (simp; done) | (simp; omega)) _) | (refine below_drewN ?_ _) | (refine Below.drew ?_)))) (hb3.mono (by first | omega | (simp; done) | (simp; omega))))⟩
        · have := Der.elem_min_no t n m hn hm HN.out
          unfold Der.minB at this
          rw [this] at hel; cases hel
    · have hlen : ([t, UInt8.ofNat (128 + m)] ++ Der.lows n m k).length + 1 ≤ 35184372088832 := by simp [hlw]; omega
      by_cases hk1 : k = 1
      · subst hk1
        go_wp2_with
          (at_builtin
           refine wpList_app rfl (.tmp 52) (.tmp 55) rfl w.heap.size wr.heap.size _ _ rfl (HO.out.1.alloc (Nat.le_refl _) _) (by simp; omega) _ _ 1 1 [Der.low n 0] rfl (reads_one_u8 _ _ _ _ (by rw [low0]; omega)) hlen ?_
           intro v2 w2 ho2 hg2 hat2 hb2)
        go_roundw
        case rel => exact ⟨0, by omega, by go_num, by rw [Der.lows_succ n m 0 (by omega), ← List.append_assoc]; exact ho2, (HO.out.2.alloc (by omega) _).trans hb2⟩
        case measure => simp [intOf] <;> omega
      by_cases hk2 : k = 2
      · subst hk2
        go_wp2_with
          (at_builtin
           refine wpList_app rfl (.tmp 52) (.tmp 55) rfl w.heap.size wr.heap.size _ _ rfl (HO.out.1.alloc (Nat.le_refl _) _) (by simp; omega) _ _ 1 1 [Der.low n 1] rfl (reads_one_u8 _ _ _ _ (by rw [low1]; omega)) hlen ?_
           intro v2 w2 ho2 hg2 hat2 hb2)
        go_roundw
        case rel => exact ⟨1, by omega, by go_num, by rw [Der.lows_succ n m 1 (by omega), ← List.append_assoc]; exact ho2, (HO.out.2.alloc (by omega) _).trans hb2⟩
        case measure => simp [intOf] <;> omega
      by_cases hk3 : k = 3
      · subst hk3
        go_wp2_with
          (at_builtin
           refine wpList_app rfl (.tmp 52) (.tmp 55) rfl w.heap.size wr.heap.size _ _ rfl (HO.out.1.alloc (Nat.le_refl _) _) (by simp; omega) _ _ 1 1 [Der.low n 2] rfl (reads_one_u8 _ _ _ _ (by rw [low2]; omega)) hlen ?_
           intro v2 w2 ho2 hg2 hat2 hb2)
        go_roundw
        case rel => exact ⟨2, by omega, by go_num, by rw [Der.lows_succ n m 2 (by omega), ← List.append_assoc]; exact ho2, (HO.out.2.alloc (by omega) _).trans hb2⟩
        case measure => simp [intOf] <;> omega
      by_cases hk4 : k = 4
      · subst hk4
        go_wp2_with
          (at_builtin
           refine wpList_app rfl (.tmp 52) (.tmp 55) rfl w.heap.size wr.heap.size _ _ rfl (HO.out.1.alloc (Nat.le_refl _) _) (by simp; omega) _ _ 1 1 [Der.low n 3] rfl (reads_one_u8 _ _ _ _ (by rw [low3]; omega)) hlen ?_
           intro v2 w2 ho2 hg2 hat2 hb2)
        go_roundw
        case rel => exact ⟨3, by omega, by go_num, by rw [Der.lows_succ n m 3 (by omega), ← List.append_assoc]; exact ho2, (HO.out.2.alloc (by omega) _).trans hb2⟩
        case measure => simp [intOf] <;> omega
      obtain ⟨j, rfl⟩ : ∃ j, k = j + 1 := ⟨k - 1, by omega⟩
      have g1 : ¬ (((j + 1 : Nat) : Int) - 1 < 4) := by omega
      have g2 : (0 : Int) ≤ ((j + 1 : Nat) : Int) - 1 := by omega
      have g3 : IntKind.i64.wrap (((j + 1 : Nat) : Int) - 1 - 1) = (j : Int) - 1 := by rw [IntKind.wrap_i64]; omega
      go_wp2_with
        (at_builtin
         refine wpList_app rfl (.tmp 52) (.tmp 55) rfl w.heap.size wr.heap.size _ _ rfl (HO.out.1.alloc (Nat.le_refl _) _) (by simp; omega) _ _ 1 1 [Der.low n j] rfl (reads_one_u8 _ _ _ _ (by rw [low4 n j (by omega)]; rfl)) hlen ?_
         intro v2 w2 ho2 hg2 hat2 hb2)
      go_roundw
      case rel => exact ⟨j, by omega, by go_num, by rw [Der.lows_succ n m j (by omega), ← List.append_assoc]; exact ho2, (HO.out.2.alloc (by omega) _).trans hb2⟩
      case measure => simp [intOf] <;> omega

theorem derMinimal_walk (w : World) (a0 : Int) (w0 : (Lit.int .u8 a0).wf = true) (a1 : Int) (_w1 : (Lit.int .i64 a1).wf = true) (a2 : Int) (_w2 : (Lit.int .i64 a2).wf = true) :
    Calls Try.prog 7 #[.int .u8 a0, .int .i64 a1, .int .i64 a2] w fun e w' => e = .returned (.bool true) ∧ Below w.heap.size w w' := by
  have hu := u8_of_wf w0
  rw [← hu]
  by_cases h : (UInt8.ofNat a0.toNat).toNat % 32 = 31 ∨ a1 < 0 ∨ 300 < a1 ∨ a2 < 0 ∨ 10 < a2
  · exact min_works _ a1 a2 w h
  · obtain ⟨n, rfl⟩ := Int.eq_ofNat_of_zero_le (show 0 ≤ a1 by omega)
    obtain ⟨m, rfl⟩ := Int.eq_ofNat_of_zero_le (show 0 ≤ a2 by omega)
    exact min_main _ n m w (by omega) (by omega) (by omega)
end Go.Proofs.Ytadkiildjehdmaa
