/- SHA-256 of the program: the small functions. -/
import Derived.Test.YtmpladnglfiejaaGreatDoorPA
import Derived.Lib.Mul64
import Derived.Laws.Bits64b
import Derived.WalkKit
namespace Go.Proofs.YtmpladnglfiejaaGreatDoor
open Go.RowKit
set_option maxRecDepth 100000
set_option linter.unusedVariables false
set_option linter.unusedSimpArgs false
namespace Sha
/-- The least number for which something holds. -/
def srch (P : Nat → Bool) : Nat → Nat → Nat → Nat
  | 0, low, _ => low
  | k + 1, low, lim => if low < lim then (if P (low + (lim - low) / 2) then srch P k low (low + (lim - low) / 2) else srch P k (low + (lim - low) / 2 + 1) lim) else low
theorem srch_done (P : Nat → Bool) (k low lim : Nat) (h : ¬ low < lim) : srch P k low lim = low := by
  cases k with
  | zero => rfl
  | succ k => rw [srch, if_neg h]
def sqP (p x : Nat) : Bool := decide (p < x * x / 18446744073709551616) || (x * x / 18446744073709551616 == p && decide (0 < x * x % 18446744073709551616))
def cuH (x : Nat) : Nat := x * x / 18446744073709551616 * x + x * x % 18446744073709551616 * x / 18446744073709551616
def cuP (p x : Nat) : Bool := decide (p * 4294967296 < cuH x) || (cuH x == p * 4294967296 && decide (0 < x * x % 18446744073709551616 * x % 18446744073709551616))
/-- The bits behind the point of a root. -/
def rootN (P : Nat → Bool) : Int := IntKind.u32.wrap (IntKind.u64.wrap ((srch P 38 0 137438953472 : Nat) - 1))
theorem maskN (a : Nat) (ha : a < 18446744073709551616) : bits .and .u64 (a : Int) 4294967295 = ((a % 4294967296 : Nat) : Int) := by
  have h := bits_and_u64_nat a 4294967295 ha (by omega)
  have e : a &&& 4294967295 = a % 4294967296 := Nat.and_two_pow_sub_one_eq_mod a 32
  rw [e] at h
  exact h
theorem divN (a : Nat) : (a : Int) / 4294967296 = ((a / 4294967296 : Nat) : Int) := by omega
theorem mulN (a b : Nat) : (a : Int) * (b : Int) = ((a * b : Nat) : Int) := (Int.natCast_mul a b).symm
theorem addN (a b : Nat) : (a : Int) + (b : Int) = ((a + b : Nat) : Int) := (Int.natCast_add a b).symm
theorem wrapN (a : Nat) (ha : a < 18446744073709551616) : IntKind.u64.wrap (a : Int) = (a : Int) := by rw [IntKind.wrap_u64]; omega
theorem wrapM (a : Nat) : IntKind.u64.wrap (a : Int) = ((a % 18446744073709551616 : Nat) : Int) := by rw [IntKind.wrap_u64]; omega
end Sha
/-- The lines of the library's own proof, turned to this program. -/
theorem mul64_any (x y : Nat) (hx : x < 18446744073709551616) (hy : y < 18446744073709551616) (w : World) :
    Calls Tryz.prog 80 #[.int .u64 x, .int .u64 y] w fun e w' => e = .returned (.tuple #[.int .u64 ((x * y / 18446744073709551616 : Nat) : Int), .int .u64 ((x * y % 18446744073709551616 : Nat) : Int)]) ∧ w' = w := by
  obtain ⟨bd, bt, bw, hhi⟩ := Lib.mul64_hi x y hx hy
  have ba := Lib.half_mul_le (a := x / 4294967296) (b := y / 4294967296) (by omega) (by omega)
  have bb := Lib.half_mul_le (a := x / 4294967296) (b := y % 4294967296) (by omega) (by omega)
  have bc := Lib.half_mul_le (a := x % 4294967296) (b := y / 4294967296) (by omega) (by omega)
  have ba' : x / 4294967296 * (y / 4294967296) < 18446744073709551616 := by omega
  have bb' : x / 4294967296 * (y % 4294967296) < 18446744073709551616 := by omega
  have bc' : x % 4294967296 * (y / 4294967296) < 18446744073709551616 := by omega
  have bh1 : x / 4294967296 * (y / 4294967296) + (x / 4294967296 * (y % 4294967296) + x % 4294967296 * (y % 4294967296) / 4294967296) / 4294967296 < 18446744073709551616 := by omega
  have bh : x / 4294967296 * (y / 4294967296) + (x / 4294967296 * (y % 4294967296) + x % 4294967296 * (y % 4294967296) / 4294967296) / 4294967296 + ((x / 4294967296 * (y % 4294967296) + x % 4294967296 * (y % 4294967296) / 4294967296) % 4294967296 + x % 4294967296 * (y / 4294967296)) / 4294967296 < 18446744073709551616 := by omega
  have H := Lib.hid (And.intro bd (And.intro bt (And.intro bw (And.intro hhi (And.intro ba' (And.intro bb' (And.intro bc' (And.intro bh1 bh))))))))
  clear bd bt bw hhi ba bb bc ba' bb' bc' bh1 bh
  go_enter Tryz.func80, Tryz.ntmps80
  go_wp2
  obtain ⟨bd, bt, bw, hhi, ba', bb', bc', bh1, bh⟩ := H.out
  simp only [Sha.maskN x hx, Sha.maskN y hy, Sha.divN, Sha.mulN, Sha.addN, Sha.wrapN _ bd, Sha.wrapN _ bb', Sha.wrapN _ bt, Sha.maskN _ bt, Sha.wrapN _ bc', Sha.wrapN _ bw, Sha.wrapN _ ba', Sha.wrapN _ bh1, Sha.wrapN _ bh, Sha.wrapM (x * y)]
  rw [hhi]
  exact bodyPost_ret (v := .tuple #[.int .u64 ((x * y / 18446744073709551616 : Nat) : Int), .int .u64 ((x * y % 18446744073709551616 : Nat) : Int)]) (by simp [results, Tryz.results80, go_sem]) rfl ⟨rfl, rfl⟩
theorem sq1_any (p x b : Nat) (w : World) (hp : p < 1000) (hx : x ≤ 274877906944) (hb : w.cell? ⟨b, 0, none⟩ = some (.int .u64 (p : Int))) :
    Calls Tryz.prog 81 #[.int .u64 (x : Int), .pointer (some ⟨b, 0, none⟩)] w fun e w' => e = .returned (.bool (Sha.sqP p x)) ∧ w' = w := by
  have hm := mul64_any x x (by omega) (by omega) w
  obtain ⟨hi, hhi⟩ : ∃ k, x * x / 18446744073709551616 = k := ⟨_, rfl⟩
  obtain ⟨lo, hlo⟩ : ∃ k, x * x % 18446744073709551616 = k := ⟨_, rfl⟩
  have e : Sha.sqP p x = (decide (p < hi) || (hi == p && decide (0 < lo))) := by unfold Sha.sqP; rw [hhi, hlo]
  rw [hhi, hlo] at hm
  rw [e]
  have H := Lib.hid hm
  clear hm hhi hlo e
  by_cases c1 : p < hi
  · have c1' : (p : Int) < hi := by omega
    have er : (decide (p < hi) || (hi == p && decide (0 < lo))) = true := by simp [c1]
    rw [er]
    clear er c1
    go_enter Tryz.func81, Tryz.ntmps81
    go_wp2_with fail
    refine H.out.mono ?_
    rintro e w' ⟨rfl, rfl⟩
    go_wp2_with fail
    go_ret
    exact ⟨by first | rfl | (simp; done) | (simp; omega), rfl⟩
  · have c1' : ¬ (p : Int) < hi := by omega
    by_cases c2 : hi = p
    · have c2' : ((hi : Int) == p) = true := by simp; omega
      by_cases c3 : 0 < lo
      · have c3' : (0 : Int) < lo := by omega
        have er : (decide (p < hi) || (hi == p && decide (0 < lo))) = true := by simp [c2, c3]
        rw [er]
        clear er c1 c2 c3
        go_enter Tryz.func81, Tryz.ntmps81
        go_wp2_with fail
        refine H.out.mono ?_
        rintro e w' ⟨rfl, rfl⟩
        go_wp2_with fail
        go_ret
        exact ⟨by first | rfl | (simp; done) | (simp; omega), rfl⟩
      · have c3' : ¬ (0 : Int) < lo := by omega
        have er : (decide (p < hi) || (hi == p && decide (0 < lo))) = false := by simp [c1, c3]
        rw [er]
        clear er c1 c2 c3
        go_enter Tryz.func81, Tryz.ntmps81
        go_wp2_with fail
        refine H.out.mono ?_
        rintro e w' ⟨rfl, rfl⟩
        go_wp2_with fail
        go_ret
        exact ⟨by first | rfl | (simp; done) | (simp; omega), rfl⟩
    · have c2' : ((hi : Int) == p) = false := by simp; omega
      have er : (decide (p < hi) || (hi == p && decide (0 < lo))) = false := by simp [c1, c2]
      rw [er]
      clear er c1 c2
      go_enter Tryz.func81, Tryz.ntmps81
      go_wp2_with fail
      refine H.out.mono ?_
      rintro e w' ⟨rfl, rfl⟩
      go_wp2_with fail
      go_ret
      exact ⟨by first | rfl | (simp; done) | (simp; omega), rfl⟩
theorem Sha.cu_small (x : Nat) (hx : x ≤ 274877906944) : x * x / 18446744073709551616 * x ≤ 2251799813685248 ∧ x * x % 18446744073709551616 * x / 18446744073709551616 ≤ 274877906944 := by
  have h1 : x * x ≤ 274877906944 * 274877906944 := Nat.mul_le_mul hx hx
  have h2 : x * x / 18446744073709551616 ≤ 4096 := by omega
  have h3 : x * x / 18446744073709551616 * x ≤ 4096 * 274877906944 := Nat.mul_le_mul h2 hx
  refine ⟨by omega, ?_⟩
  have h4 : x * x % 18446744073709551616 * x ≤ 18446744073709551616 * 274877906944 := Nat.mul_le_mul (Nat.le_of_lt (Nat.mod_lt _ (by omega))) hx
  omega
theorem cu1_any (p x b : Nat) (w : World) (hp : p < 1000) (hx : x ≤ 274877906944) (hb : w.cell? ⟨b, 0, none⟩ = some (.int .u64 (p : Int))) :
    Calls Tryz.prog 79 #[.int .u64 (x : Int), .pointer (some ⟨b, 0, none⟩)] w fun e w' => e = .returned (.bool (Sha.cuP p x)) ∧ w' = w := by
  have hm := mul64_any x x (by omega) (by omega) w
  have hs := Sha.cu_small x hx
  have hm2 := mul64_any (x * x % 18446744073709551616) x (Nat.mod_lt _ (by omega)) (by omega) w
  have e : Sha.cuP p x = (decide (p * 4294967296 < Sha.cuH x) || (Sha.cuH x == p * 4294967296 && decide (0 < x * x % 18446744073709551616 * x % 18446744073709551616))) := rfl
  have hch : Sha.cuH x = x * x / 18446744073709551616 * x + x * x % 18446744073709551616 * x / 18446744073709551616 := rfl
  obtain ⟨hi, hhi⟩ : ∃ k, x * x / 18446744073709551616 = k := ⟨_, rfl⟩
  obtain ⟨lo, hlo⟩ : ∃ k, x * x % 18446744073709551616 = k := ⟨_, rfl⟩
  rw [hhi, hlo] at hm
  rw [hlo] at hm2 e
  rw [hhi, hlo] at hs hch
  obtain ⟨mo, hmo⟩ : ∃ k, lo * x / 18446744073709551616 = k := ⟨_, rfl⟩
  obtain ⟨l2, hl2⟩ : ∃ k, lo * x % 18446744073709551616 = k := ⟨_, rfl⟩
  rw [hmo, hl2] at hm2
  rw [hl2] at e
  rw [hmo] at hs hch
  obtain ⟨hx1, hhx1⟩ : ∃ k, hi * x = k := ⟨_, rfl⟩
  have hii : (hi : Int) * x = (hx1 : Int) := by rw [← hhx1]; exact (Int.natCast_mul hi x).symm
  rw [hhx1] at hs hch
  obtain ⟨hs1, hs2⟩ := hs
  obtain ⟨hh, hhh⟩ : ∃ k, Sha.cuH x = k := ⟨_, rfl⟩
  rw [hhh] at e hch
  have hhi' : (hx1 : Int) + mo = (hh : Int) := by omega
  have hp32 : (p : Int) * 4294967296 = ((p * 4294967296 : Nat) : Int) := by omega
  obtain ⟨q, hq⟩ : ∃ k, p * 4294967296 = k := ⟨_, rfl⟩
  rw [hq] at hp32 e
  have hql : q < 4294967296000 := by omega
  rw [e]
  have H := Lib.hid (And.intro hm hm2)
  clear hm hm2 hhi hlo e hmo hl2 hhx1 hhh hch hq
  by_cases c1 : q < hh
  · have c1' : (q : Int) < hh := by omega
    have er : (decide (q < hh) || (hh == q && decide (0 < l2))) = true := by simp [c1]
    rw [er]
    clear er c1
    go_enter Tryz.func79, Tryz.ntmps79
    go_wp2_with fail
    refine H.out.1.mono ?_
    rintro e w' ⟨rfl, rfl⟩
    go_wp2_with fail
    refine H.out.2.mono ?_
    rintro e w' ⟨rfl, rfl⟩
    go_wp2_with fail
    go_ret
    exact ⟨by first | rfl | (simp; done) | (simp; omega), rfl⟩
  · have c1' : ¬ (q : Int) < hh := by omega
    by_cases c2 : hh = q
    · have c2' : ((hh : Int) == q) = true := by simp; omega
      by_cases c3 : 0 < l2
      · have c3' : (0 : Int) < l2 := by omega
        have er : (decide (q < hh) || (hh == q && decide (0 < l2))) = true := by simp [c2, c3]
        rw [er]
        clear er c1 c2 c3
        go_enter Tryz.func79, Tryz.ntmps79
        go_wp2_with fail
        refine H.out.1.mono ?_
        rintro e w' ⟨rfl, rfl⟩
        go_wp2_with fail
        refine H.out.2.mono ?_
        rintro e w' ⟨rfl, rfl⟩
        go_wp2_with fail
        go_ret
        exact ⟨by first | rfl | (simp; done) | (simp; omega), rfl⟩
      · have c3' : ¬ (0 : Int) < l2 := by omega
        have er : (decide (q < hh) || (hh == q && decide (0 < l2))) = false := by simp [c1, c3]
        rw [er]
        clear er c1 c2 c3
        go_enter Tryz.func79, Tryz.ntmps79
        go_wp2_with fail
        refine H.out.1.mono ?_
        rintro e w' ⟨rfl, rfl⟩
        go_wp2_with fail
        refine H.out.2.mono ?_
        rintro e w' ⟨rfl, rfl⟩
        go_wp2_with fail
        go_ret
        exact ⟨by first | rfl | (simp; done) | (simp; omega), rfl⟩
    · have c2' : ((hh : Int) == q) = false := by simp; omega
      have er : (decide (q < hh) || (hh == q && decide (0 < l2))) = false := by simp [c1, c2]
      rw [er]
      clear er c1 c2
      go_enter Tryz.func79, Tryz.ntmps79
      go_wp2_with fail
      refine H.out.1.mono ?_
      rintro e w' ⟨rfl, rfl⟩
      go_wp2_with fail
      refine H.out.2.mono ?_
      rintro e w' ⟨rfl, rfl⟩
      go_wp2_with fail
      go_ret
      exact ⟨by first | rfl | (simp; done) | (simp; omega), rfl⟩
set_option maxHeartbeats 1000000 in
theorem search_sq (p b : Nat) (w : World) (hp : p < 1000) (hb : w.cell? ⟨b, 0, none⟩ = some (.int .u64 (p : Int))) :
    Calls Tryz.prog 78 #[.int .u64 137438953472, .func (.func 81) #[] #[.pointer (some ⟨b, 0, none⟩)]] w fun e w' => e = .returned (.int .u64 ((Sha.srch (Sha.sqP p) 38 0 137438953472 : Nat) : Int)) ∧ w' = w := by
  have hc := fun x (hx : x ≤ 274877906944) => sq1_any p x b w hp hx hb
  obtain ⟨R, hR⟩ : ∃ R, Sha.srch (Sha.sqP p) 38 0 137438953472 = R := ⟨_, rfl⟩
  rw [hR]
  have H := Lib.hid (And.intro hc hR)
  clear hc hR
  go_enter Tryz.func78, Tryz.ntmps78
  go_wp2_with fail
  go_loopw [0, 5, 6] (fun lim low _ wr => ∃ h l k : Nat, lim = .int .u64 (h : Int) ∧ low = .int .u64 (l : Int) ∧ wr = w ∧ h ≤ 137438953472 ∧ l ≤ h + 1 ∧ h - l < 2 ^ k ∧ Sha.srch (Sha.sqP p) k l h = R) (fun lim low _ _ => ((intOf lim) - (intOf low)).toNat)
  case atStart => exact ⟨137438953472, 0, 38, rfl, rfl, rfl, by omega, by omega, by decide, H.out.2⟩
  case round =>
    obtain ⟨h, l, k, rfl, rfl, rfl, hh, hl, hk, hs⟩ := hrel
    by_cases hlt : l < h
    · have hlt' : (l : Int) < h := by omega
      obtain ⟨m, hm⟩ : ∃ m, l + (h - l) / 2 = m := ⟨_, rfl⟩
      have hmi : (l : Int) + ((h : Int) - l) / 2 = (m : Int) := by omega
      have hml : l ≤ m ∧ m < h := by omega
      obtain ⟨j, rfl⟩ : ∃ j, k = j + 1 := by
        cases k with
        | zero => simp at hk; omega
        | succ j => exact ⟨j, rfl⟩
      rw [Nat.pow_succ] at hk
      rw [Sha.srch, if_pos hlt, hm] at hs
      have hcm := H.out.1 m (by omega)
      obtain ⟨b1, hb1⟩ : ∃ b1, Sha.sqP p m = b1 := ⟨_, rfl⟩
      rw [hb1] at hcm hs
      have HC := Lib.hid (And.intro hcm (And.intro hs (And.intro hk hm)))
      clear hcm hs hk hm hb1
      go_wp2_with fail
      refine HC.out.1.mono ?_
      rintro e w1 ⟨rfl, rfl⟩
      cases b1
      · go_wp2_with fail
        go_roundw
        case rel => exact ⟨h, m + 1, j, rfl, by go_num, by first | rfl | trivial, hh, by omega, by have := HC.out.2.2; omega, by have := HC.out.2.1; simpa using this⟩
        case measure => simp [intOf]; omega
      · go_wp2_with fail
        go_roundw
        case rel => exact ⟨m, l, j, rfl, rfl, by first | rfl | trivial, by omega, by omega, by have := HC.out.2.2; omega, by have := HC.out.2.1; simpa using this⟩
        case measure => simp [intOf]; omega
    · have hge : ¬ (l : Int) < h := by omega
      rw [Sha.srch_done _ _ _ _ hlt] at hs
      subst hs
      clear hk
      go_wp2_with fail
      go_ret
      exact ⟨rfl, rfl⟩
theorem square_any (p : Nat) (w : World) (hp : p < 1000) : Calls Tryz.prog 58 #[.int .u64 (p : Int)] w fun e w' => e = .returned (.int .u32 (Sha.rootN (Sha.sqP p))) ∧ Below w.heap.size w w' := by
  have hc := search_sq p w.heap.size (w.alloc (.cells #[.int .u64 (p : Int)] 64)) hp ((Blk.new w 64 #[.int .u64 (p : Int)]).cell 0)
  have er : Sha.rootN (Sha.sqP p) = IntKind.u32.wrap (IntKind.u64.wrap ((Sha.srch (Sha.sqP p) 38 0 137438953472 : Nat) - 1)) := rfl
  obtain ⟨R, hR⟩ : ∃ R, Sha.srch (Sha.sqP p) 38 0 137438953472 = R := ⟨_, rfl⟩
  rw [hR] at hc er
  rw [er]
  have H := Lib.hid hc
  clear hc hR er
  go_enter Tryz.func58, Tryz.ntmps58
  go_wp2_with fail
  refine H.out.mono ?_
  rintro e w1 ⟨rfl, rfl⟩
  go_wp2_with fail
  go_ret
  exact ⟨rfl, (Below.refl _ _).alloc (Nat.le_refl _) _⟩
set_option maxHeartbeats 1000000 in
theorem search_cu (p b : Nat) (w : World) (hp : p < 1000) (hb : w.cell? ⟨b, 0, none⟩ = some (.int .u64 (p : Int))) :
    Calls Tryz.prog 78 #[.int .u64 137438953472, .func (.func 79) #[] #[.pointer (some ⟨b, 0, none⟩)]] w fun e w' => e = .returned (.int .u64 ((Sha.srch (Sha.cuP p) 38 0 137438953472 : Nat) : Int)) ∧ w' = w := by
  have hc := fun x (hx : x ≤ 274877906944) => cu1_any p x b w hp hx hb
  obtain ⟨R, hR⟩ : ∃ R, Sha.srch (Sha.cuP p) 38 0 137438953472 = R := ⟨_, rfl⟩
  rw [hR]
  have H := Lib.hid (And.intro hc hR)
  clear hc hR
  go_enter Tryz.func78, Tryz.ntmps78
  go_wp2_with fail
  go_loopw [0, 5, 6] (fun lim low _ wr => ∃ h l k : Nat, lim = .int .u64 (h : Int) ∧ low = .int .u64 (l : Int) ∧ wr = w ∧ h ≤ 137438953472 ∧ l ≤ h + 1 ∧ h - l < 2 ^ k ∧ Sha.srch (Sha.cuP p) k l h = R) (fun lim low _ _ => ((intOf lim) - (intOf low)).toNat)
  case atStart => exact ⟨137438953472, 0, 38, rfl, rfl, rfl, by omega, by omega, by decide, H.out.2⟩
  case round =>
    obtain ⟨h, l, k, rfl, rfl, rfl, hh, hl, hk, hs⟩ := hrel
    by_cases hlt : l < h
    · have hlt' : (l : Int) < h := by omega
      obtain ⟨m, hm⟩ : ∃ m, l + (h - l) / 2 = m := ⟨_, rfl⟩
      have hmi : (l : Int) + ((h : Int) - l) / 2 = (m : Int) := by omega
      have hml : l ≤ m ∧ m < h := by omega
      obtain ⟨j, rfl⟩ : ∃ j, k = j + 1 := by
        cases k with
        | zero => simp at hk; omega
        | succ j => exact ⟨j, rfl⟩
      rw [Nat.pow_succ] at hk
      rw [Sha.srch, if_pos hlt, hm] at hs
      have hcm := H.out.1 m (by omega)
      obtain ⟨b1, hb1⟩ : ∃ b1, Sha.cuP p m = b1 := ⟨_, rfl⟩
      rw [hb1] at hcm hs
      have HC := Lib.hid (And.intro hcm (And.intro hs (And.intro hk hm)))
      clear hcm hs hk hm hb1
      go_wp2_with fail
      refine HC.out.1.mono ?_
      rintro e w1 ⟨rfl, rfl⟩
      cases b1
      · go_wp2_with fail
        go_roundw
        case rel => exact ⟨h, m + 1, j, rfl, by go_num, by first | rfl | trivial, hh, by omega, by have := HC.out.2.2; omega, by have := HC.out.2.1; simpa using this⟩
        case measure => simp [intOf]; omega
      · go_wp2_with fail
        go_roundw
        case rel => exact ⟨m, l, j, rfl, rfl, by first | rfl | trivial, by omega, by omega, by have := HC.out.2.2; omega, by have := HC.out.2.1; simpa using this⟩
        case measure => simp [intOf]; omega
    · have hge : ¬ (l : Int) < h := by omega
      rw [Sha.srch_done _ _ _ _ hlt] at hs
      subst hs
      clear hk
      go_wp2_with fail
      go_ret
      exact ⟨rfl, rfl⟩
theorem cube_any (p : Nat) (w : World) (hp : p < 1000) : Calls Tryz.prog 57 #[.int .u64 (p : Int)] w fun e w' => e = .returned (.int .u32 (Sha.rootN (Sha.cuP p))) ∧ Below w.heap.size w w' := by
  have hc := search_cu p w.heap.size (w.alloc (.cells #[.int .u64 (p : Int)] 64)) hp ((Blk.new w 64 #[.int .u64 (p : Int)]).cell 0)
  have er : Sha.rootN (Sha.cuP p) = IntKind.u32.wrap (IntKind.u64.wrap ((Sha.srch (Sha.cuP p) 38 0 137438953472 : Nat) - 1)) := rfl
  obtain ⟨R, hR⟩ : ∃ R, Sha.srch (Sha.cuP p) 38 0 137438953472 = R := ⟨_, rfl⟩
  rw [hR] at hc er
  rw [er]
  have H := Lib.hid hc
  clear hc hR er
  go_enter Tryz.func57, Tryz.ntmps57
  go_wp2_with fail
  refine H.out.mono ?_
  rintro e w1 ⟨rfl, rfl⟩
  go_wp2_with fail
  go_ret
  exact ⟨rfl, (Below.refl _ _).alloc (Nat.le_refl _) _⟩
end Go.Proofs.YtmpladnglfiejaaGreatDoor
