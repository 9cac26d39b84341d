/- The walk of the law DerLengths: how many bytes stand ahead of a body is told by its length. -/
import Derived.Test.YtadkiildjehdmaaWorks
import Derived.Test.YtadkiildjehdmaaPlain1
namespace Go.Proofs.Ytadkiildjehdmaa
open Go.RowKit
set_option maxRecDepth 1000000

theorem lenB_1 {n : Nat} (h : n < 128) : (Der.lenB n).length = 1 := by simp [Der.lenB, h]
theorem leB_count {n k : Nat} (h1 : 256 ^ k ≤ n) (h2 : n < 256 ^ (k + 1)) : (Der.leB n).length = k + 1 := by
  induction k generalizing n with
  | zero =>
    rw [Der.leB_pos (by simp at h1; omega), show n / 256 = 0 from by simp at h2; omega, Der.leB_zero]; rfl
  | succ k ih =>
    have hp : 0 < 256 ^ k := Nat.pow_pos (by omega)
    rw [Nat.pow_succ] at h1 h2
    rw [Der.leB_pos (by omega), List.length_cons, ih (n := n / 256) (by omega) (by rw [Nat.pow_succ] at h2 ⊢; omega)]
theorem lenB_2 {n : Nat} (h1 : 128 ≤ n) (h2 : n < 256) : (Der.lenB n).length = 2 := by
  have := leB_count (n := n) (k := 0) (by simp; omega) (by simpa using h2)
  simp only [Der.lenB, if_neg (show ¬ n < 128 by omega), List.length_cons, List.length_reverse, this]
theorem lenB_3 {n : Nat} (h1 : 256 ≤ n) (h2 : n < 65536) : (Der.lenB n).length = 3 := by
  have := leB_count (n := n) (k := 1) (by simpa using h1) (by simpa using h2)
  simp only [Der.lenB, if_neg (show ¬ n < 128 by omega), List.length_cons, List.length_reverse, this]
theorem lenB_4 {n : Nat} (h1 : 65536 ≤ n) (h2 : n < 16777216) : (Der.lenB n).length = 4 := by
  have := leB_count (n := n) (k := 2) (by simpa using h1) (by simpa using h2)
  simp only [Der.lenB, if_neg (show ¬ n < 128 by omega), List.length_cons, List.length_reverse, this]

theorem derLengths_works (a0 : Int) (w : World) (h : a0 < 0 ∨ 131072 < a0) :
    Calls Try.prog 6 #[.int .i64 a0] w fun e w' => e = .returned (.bool true) ∧ Below w.heap.size w w' := by
  by_cases h0 : a0 < 0
  · go_enter Try.func6, Try.ntmps6
    go_wp2_with fail
    refine (works_any w).mono ?_
    rintro e w1 ⟨rfl, hb1⟩
    go_wp2
    go_ret
    exact ⟨rfl, hb1⟩
  · have h1 : 131072 < a0 := by omega
    have h0' : (a0 < 0) = False := by simp; omega
    go_enter Try.func6, Try.ntmps6
    go_wp2_with fail
    refine (works_any w).mono ?_
    rintro e w1 ⟨rfl, hb1⟩
    go_wp2
    go_ret
    exact ⟨rfl, hb1⟩

set_option maxHeartbeats 1000000 in
theorem derLengths_main (n : Nat) (w : World) (h : n ≤ 131072) :
    Calls Try.prog 6 #[.int .i64 (n : Int)] w fun e w' => e = .returned (.bool true) ∧ Below w.heap.size w w' := by
  have hmk := run_makeB n (by omega)
  have h0 : ¬ (n : Int) < 0 := by omega
  have h1 : ¬ (131072 : Int) < n := by omega
  have hw := Der.write_len 4 (List.replicate n 0)
  have hel := Der.elem_write' 4 (List.replicate n 0) (by simp; omega)
  rw [if_neg (by decide)] at hel
  rw [List.length_replicate] at hw
  have HW := Lib.hid (And.intro hw hel)
  clear hw hel
  by_cases c1 : n < 128
  · have t1 : ¬ (128 : Int) ≤ n := by omega
    have t2 : ¬ (256 : Int) ≤ n := by omega
    have t3 : ¬ (65536 : Int) ≤ n := by omega
    have hk : Hid (1 + (Der.lenB n).length = 2) := by rw [lenB_1 c1]; rfl
    go_enter Try.func6, Try.ntmps6
    go_wp2_with fail
    refine (write_any 4 _ n n _ _ (Rd.zeros w n (by omega) _ rfl) (by omega)).mono ?_
    rintro e w1 ⟨A1, n1, c1', rfl, ho1, hb1⟩
    have hn1 : n1 = 2 + n := by rw [← ho1.len, HW.out.1, hk.out]
    obtain ⟨_, _, _, e1, hr1⟩ := ho1.rd
    injection e1 with ea eb ec
    subst ea eb ec
    subst hn1
    have hbw1 : Below w.heap.size w w1 := Below.trans (by (repeat (first | exact Below.refl _ _ | assumption | (refine Below.setCell ?_ (by first | omega | (simp; done) | (simp; omega)) _) | (refine Below.alloc ?_ (by first | omega | (simp; done) | (simp; omega)) _) | (refine below_drewN ?_ _) | (refine Below.drew ?_)))) (hb1.mono (by first | omega | (simp; done) | (simp; omega)))
    have HR := Lib.hid hr1
    clear hr1 ho1 hb1
    go_wp2_with fail
    refine (parse_any _ _ _ _ _ HR.out (by omega)).mono ?_
    rintro e w2 ⟨hb2, ⟨hno, _⟩ | ⟨t, body, raw, rest, A2, n2, c2', A3, n3, c3', A4, n4, c4', hel, rfl, ho2⟩⟩
    · rw [HW.out.2] at hno; cases hno
    rw [HW.out.2] at hel
    simp only [Option.some.injEq, Prod.mk.injEq] at hel
    obtain ⟨rfl, rfl, rfl, rfl⟩ := hel
    have e2 := (ho2.rd (v := .slice A2 n2 c2') (xs := List.replicate n 0) (by simp)).len
    rw [List.length_replicate] at e2
    subst e2
    have e4 := (ho2.rd (v := .slice A4 n4 c4') (xs := []) (by simp)).len
    subst e4
    have hbw2 : Below w.heap.size w w2 := hbw1.trans (hb2.mono hbw1.size)
    clear ho2
    go_wp2_with fail
    refine (works_any _).mono ?_
    rintro e w3 ⟨rfl, hb3⟩
    have hbw3 : Below w.heap.size w w3 := hbw2.trans ((((Below.refl _ _).alloc (Nat.le_refl _) _).trans (hb3.mono (by first | omega | (simp; done) | (simp; omega)))).mono hbw2.size)
    go_wp2
    go_ret
    exact ⟨rfl, hbw3⟩
  by_cases c2 : n < 256
  · have t1 : (128 : Int) ≤ n := by omega
    have t2 : ¬ (256 : Int) ≤ n := by omega
    have t3 : ¬ (65536 : Int) ≤ n := by omega
    have hk : Hid (1 + (Der.lenB n).length = 3) := by rw [lenB_2 (by omega) c2]; rfl
    go_enter Try.func6, Try.ntmps6
    go_wp2_with fail
    refine (write_any 4 _ n n _ _ (Rd.zeros w n (by omega) _ rfl) (by omega)).mono ?_
    rintro e w1 ⟨A1, n1, c1', rfl, ho1, hb1⟩
    have hn1 : n1 = 3 + n := by rw [← ho1.len, HW.out.1, hk.out]
    obtain ⟨_, _, _, e1, hr1⟩ := ho1.rd
    injection e1 with ea eb ec
    subst ea eb ec
    subst hn1
    have hbw1 : Below w.heap.size w w1 := Below.trans (by (repeat (first | exact Below.refl _ _ | assumption | (refine Below.setCell ?_ (by first | omega | (simp; done) | (simp; omega)) _) | (refine Below.alloc ?_ (by first | omega | (simp; done) | (simp; omega)) _) | (refine below_drewN ?_ _) | (refine Below.drew ?_)))) (hb1.mono (by first | omega | (simp; done) | (simp; omega)))
    have HR := Lib.hid hr1
    clear hr1 ho1 hb1
    go_wp2_with fail
    refine (parse_any _ _ _ _ _ HR.out (by omega)).mono ?_
    rintro e w2 ⟨hb2, ⟨hno, _⟩ | ⟨t, body, raw, rest, A2, n2, c2', A3, n3, c3', A4, n4, c4', hel, rfl, ho2⟩⟩
    · rw [HW.out.2] at hno; cases hno
    rw [HW.out.2] at hel
    simp only [Option.some.injEq, Prod.mk.injEq] at hel
    obtain ⟨rfl, rfl, rfl, rfl⟩ := hel
    have e2 := (ho2.rd (v := .slice A2 n2 c2') (xs := List.replicate n 0) (by simp)).len
    rw [List.length_replicate] at e2
    subst e2
    have e4 := (ho2.rd (v := .slice A4 n4 c4') (xs := []) (by simp)).len
    subst e4
    have hbw2 : Below w.heap.size w w2 := hbw1.trans (hb2.mono hbw1.size)
    clear ho2
    go_wp2_with fail
    refine (works_any _).mono ?_
    rintro e w3 ⟨rfl, hb3⟩
    have hbw3 : Below w.heap.size w w3 := hbw2.trans ((((Below.refl _ _).alloc (Nat.le_refl _) _).trans (hb3.mono (by first | omega | (simp; done) | (simp; omega)))).mono hbw2.size)
    go_wp2
    go_ret
    exact ⟨rfl, hbw3⟩
  by_cases c3 : n < 65536
  · have t1 : (128 : Int) ≤ n := by omega
    have t2 : (256 : Int) ≤ n := by omega
    have t3 : ¬ (65536 : Int) ≤ n := by omega
    have hk : Hid (1 + (Der.lenB n).length = 4) := by rw [lenB_3 (by omega) c3]; rfl
    go_enter Try.func6, Try.ntmps6
    go_wp2_with fail
    refine (write_any 4 _ n n _ _ (Rd.zeros w n (by omega) _ rfl) (by omega)).mono ?_
    rintro e w1 ⟨A1, n1, c1', rfl, ho1, hb1⟩
    have hn1 : n1 = 4 + n := by rw [← ho1.len, HW.out.1, hk.out]
    obtain ⟨_, _, _, e1, hr1⟩ := ho1.rd
    injection e1 with ea eb ec
    subst ea eb ec
    subst hn1
    have hbw1 : Below w.heap.size w w1 := Below.trans (by (repeat (first | exact Below.refl _ _ | assumption | (refine Below.setCell ?_ (by first | omega | (simp; done) | (simp; omega)) _) | (refine Below.alloc ?_ (by first | omega | (simp; done) | (simp; omega)) _) | (refine below_drewN ?_ _) | (refine Below.drew ?_)))) (hb1.mono (by first | omega | (simp; done) | (simp; omega)))
    have HR := Lib.hid hr1
    clear hr1 ho1 hb1
    go_wp2_with fail
    refine (parse_any _ _ _ _ _ HR.out (by omega)).mono ?_
    rintro e w2 ⟨hb2, ⟨hno, _⟩ | ⟨t, body, raw, rest, A2, n2, c2', A3, n3, c3', A4, n4, c4', hel, rfl, ho2⟩⟩
    · rw [HW.out.2] at hno; cases hno
    rw [HW.out.2] at hel
    simp only [Option.some.injEq, Prod.mk.injEq] at hel
    obtain ⟨rfl, rfl, rfl, rfl⟩ := hel
    have e2 := (ho2.rd (v := .slice A2 n2 c2') (xs := List.replicate n 0) (by simp)).len
    rw [List.length_replicate] at e2
    subst e2
    have e4 := (ho2.rd (v := .slice A4 n4 c4') (xs := []) (by simp)).len
    subst e4
    have hbw2 : Below w.heap.size w w2 := hbw1.trans (hb2.mono hbw1.size)
    clear ho2
    go_wp2_with fail
    refine (works_any _).mono ?_
    rintro e w3 ⟨rfl, hb3⟩
    have hbw3 : Below w.heap.size w w3 := hbw2.trans ((((Below.refl _ _).alloc (Nat.le_refl _) _).trans (hb3.mono (by first | omega | (simp; done) | (simp; omega)))).mono hbw2.size)
    go_wp2
    go_ret
    exact ⟨rfl, hbw3⟩
  · have t1 : (128 : Int) ≤ n := by omega
    have t2 : (256 : Int) ≤ n := by omega
    have t3 : (65536 : Int) ≤ n := by omega
    have hk : Hid (1 + (Der.lenB n).length = 5) := by rw [lenB_4 (by omega) (by omega)]; rfl
    go_enter Try.func6, Try.ntmps6
    go_wp2_with fail
    refine (write_any 4 _ n n _ _ (Rd.zeros w n (by omega) _ rfl) (by omega)).mono ?_
    rintro e w1 ⟨A1, n1, c1', rfl, ho1, hb1⟩
    have hn1 : n1 = 5 + n := by rw [← ho1.len, HW.out.1, hk.out]
    obtain ⟨_, _, _, e1, hr1⟩ := ho1.rd
    injection e1 with ea eb ec
    subst ea eb ec
    subst hn1
    have hbw1 : Below w.heap.size w w1 := Below.trans (by (repeat (first | exact Below.refl _ _ | assumption | (refine Below.setCell ?_ (by first | omega | (simp; done) | (simp; omega)) _) | (refine Below.alloc ?_ (by first | omega | (simp; done) | (simp; omega)) _) | (refine below_drewN ?_ _) | (refine Below.drew ?_)))) (hb1.mono (by first | omega | (simp; done) | (simp; omega)))
    have HR := Lib.hid hr1
    clear hr1 ho1 hb1
    go_wp2_with fail
    refine (parse_any _ _ _ _ _ HR.out (by omega)).mono ?_
    rintro e w2 ⟨hb2, ⟨hno, _⟩ | ⟨t, body, raw, rest, A2, n2, c2', A3, n3, c3', A4, n4, c4', hel, rfl, ho2⟩⟩
    · rw [HW.out.2] at hno; cases hno
    rw [HW.out.2] at hel
    simp only [Option.some.injEq, Prod.mk.injEq] at hel
    obtain ⟨rfl, rfl, rfl, rfl⟩ := hel
    have e2 := (ho2.rd (v := .slice A2 n2 c2') (xs := List.replicate n 0) (by simp)).len
    rw [List.length_replicate] at e2
    subst e2
    have e4 := (ho2.rd (v := .slice A4 n4 c4') (xs := []) (by simp)).len
    subst e4
    have hbw2 : Below w.heap.size w w2 := hbw1.trans (hb2.mono hbw1.size)
    clear ho2
    go_wp2_with fail
    refine (works_any _).mono ?_
    rintro e w3 ⟨rfl, hb3⟩
    have hbw3 : Below w.heap.size w w3 := hbw2.trans ((((Below.refl _ _).alloc (Nat.le_refl _) _).trans (hb3.mono (by first | omega | (simp; done) | (simp; omega)))).mono hbw2.size)
    go_wp2
    go_ret
    exact ⟨rfl, hbw3⟩

theorem derLengths_walk (a0 : Int) (_w0 : (Lit.int .i64 a0).wf = true) (w : World) :
    Calls Try.prog 6 #[.int .i64 a0] w fun e w' => e = .returned (.bool true) ∧ Below w.heap.size w w' := by
  by_cases h : a0 < 0 ∨ 131072 < a0
  · exact derLengths_works a0 w h
  · obtain ⟨n, rfl⟩ := Int.eq_ofNat_of_zero_le (show 0 ≤ a0 by omega)
    exact derLengths_main n w (by omega)
end Go.Proofs.Ytadkiildjehdmaa
