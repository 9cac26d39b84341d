/- SHA-256 of the program: the first primes. -/
import Derived.Test.YtmpladnglfiejaaGreatDoorSh2
import Derived.Test.YtmpladnglfiejaaGreatDoorShA
import Derived.Test.YtmpladnglfiejaaGreatDoorPD
import Derived.BigRegion
import Derived.Deep.Cut
import Derived.BigQuiet
import Derived.Deep.QuietTactic
import Derived.Deep.RegionHeld3
namespace Go.Proofs.YtmpladnglfiejaaGreatDoor
open Go.RowKit
set_option maxRecDepth 100000
set_option linter.unusedVariables false
set_option linter.unusedSimpArgs false
namespace Sha
def pstep (l : List Nat) (p : Nat) : List Nat := if l.any (fun q => p % q == 0) then l else l ++ [p]
def prun : Nat → List Nat
  | 0 => []
  | k + 1 => pstep (prun k) (2 + k)
theorem prun_step (k : Nat) : (prun k).length ≤ (prun (k + 1)).length ∧ (prun (k + 1)).length ≤ (prun k).length + 1 := by
  rw [prun, pstep]
  split
  · exact ⟨Nat.le_refl _, by omega⟩
  · rw [List.length_append]
    exact ⟨by omega, by simp⟩
theorem prun_mono (k : Nat) : ∀ d, (prun k).length ≤ (prun (k + d)).length
  | 0 => Nat.le_refl _
  | d + 1 => Nat.le_trans (prun_mono k d) (prun_step (k + d)).1
theorem prun_309 : (prun 309).length = 63 := by decide +kernel
theorem prun_310 : (prun 310).length = 64 := by decide +kernel
theorem prun_lt {k : Nat} (h : (prun k).length < 64) : k < 310 := by
  rcases Nat.lt_or_ge k 310 with h1 | h1
  · exact h1
  · have := prun_mono 310 (k - 310)
    rw [show 310 + (k - 310) = k by omega, prun_310] at this
    omega
theorem prun_end {k : Nat} (hk : k ≤ 310) (h : ¬ (prun k).length < 64) : k = 310 := by
  rcases Nat.lt_or_ge k 310 with h1 | h1
  · have := prun_mono k (309 - k)
    rw [show k + (309 - k) = 309 by omega, prun_309] at this
    omega
  · omega
theorem prun_mem : ∀ (k : Nat), ∀ q ∈ prun k, 2 ≤ q ∧ q < 2 + k
  | 0, q, h => by cases h
  | k + 1, q, h => by
    rw [prun, pstep] at h
    split at h
    · have := prun_mem k q h; omega
    · rcases List.mem_append.1 h with h | h
      · have := prun_mem k q h; omega
      · rw [List.mem_singleton] at h; omega
end Sha
theorem int_beqN (a b : Nat) : ((a : Int) == (b : Int)) = (a == b) := by rw [Bool.eq_iff_iff]; simp; omega
def i64v (x : Nat) : Value := .int .u64 (x : Int)
theorem primes1_any (p q b : Nat) (w : World) (hq : 0 < q) (hb : w.cell? ⟨b, 0, none⟩ = some (.int .u64 (p : Int))) :
    Calls Tryz.prog 77 #[.int .u64 (q : Int), .pointer (some ⟨b, 0, none⟩)] w fun e w' => e = .returned (.bool (p % q == 0)) ∧ w' = w := by
  have hmod : Int.tmod (p : Int) (q : Int) = ((p % q : Nat) : Int) := rfl
  obtain ⟨r, hr⟩ : ∃ r, p % q = r := ⟨_, rfl⟩
  rw [hr] at hmod ⊢
  have hq0 : ((q : Int) == 0) = false := by simp; omega
  have hq1 : ¬ (q : Int) = 0 := by omega
  clear hr
  go_enter Tryz.func77, Tryz.ntmps77
  go_wp2_with fail
  go_ret
  exact ⟨by first | rfl | (simp; exact int_beqN r 0), rfl⟩
set_option maxHeartbeats 1000000 in
theorem indexP_any (p b g n c : Nat) (l : List Nat) (w : World) (hn : l.length = n) (hn64 : n ≤ 64) (hl : ∀ q ∈ l, 2 ≤ q) (hb : w.cell? ⟨b, 0, none⟩ = some (.int .u64 (p : Int))) (hc : ∀ j x, l[j]? = some x → w.cell? ⟨g, j, none⟩ = some (i64v x)) :
    Calls Tryz.prog 98 #[.slice (some ⟨g, 0, none⟩) n c, .func (.func 77) #[] #[.pointer (some ⟨b, 0, none⟩)]] w fun e w' => (∃ z : Int, e = .returned (.int .i64 z) ∧ (decide (0 ≤ z) = l.any fun q => p % q == 0)) ∧ w' = w := by
  have hcall := fun q (hq : 0 < q) => primes1_any p q b w hq hb
  have H := Lib.hid (And.intro hcall (And.intro hl (And.intro hc hn)))
  clear hcall hl hc hn hb
  go_enter Tryz.func98, Tryz.ntmps98
  go_wp2_with fail
  go_loopw [8, 5] (fun i _ wr => ∃ j : Nat, j ≤ n ∧ i = .int .i64 (j : Int) ∧ wr = w ∧ (l.take j).any (fun q => p % q == 0) = false) (fun i _ _ => n - (intOf i).toNat)
  case atStart => exact ⟨0, Nat.zero_le _, rfl, rfl, rfl⟩
  case round =>
    obtain ⟨j, hj, rfl, rfl, hany⟩ := hrel
    by_cases hlt : j < n
    · have hlt' : (j : Int) < n := by omega
      obtain ⟨q, hq⟩ : ∃ q, l[j]? = some q := ⟨_, List.getElem?_eq_getElem (by have := H.out.2.2.2; omega)⟩
      have hq2 := H.out.2.1 q (List.mem_of_getElem? hq)
      have hcq : wr.cell? ⟨g, j, none⟩ = some (.int .u64 (q : Int)) := H.out.2.2.1 j q hq
      have hc1 := H.out.1 q (by omega)
      obtain ⟨b1, hb1⟩ : ∃ b1, (p % q == 0) = b1 := ⟨_, rfl⟩
      rw [hb1] at hc1
      have htk : (l.take (j + 1)).any (fun q => p % q == 0) = b1 := by
        rw [take_snoc hq, List.any_append, hany]
        simp [hb1]
      have HC := Lib.hid (And.intro hc1 (And.intro htk (And.intro hq hb1)))
      clear hc1 htk hq hb1 hany
      go_wp2_with fail
      refine HC.out.1.mono ?_
      rintro e w1 ⟨rfl, rfl⟩
      cases b1
      · go_wp2_with fail
        go_roundw
        case rel => exact ⟨j + 1, by omega, by go_num, by first | rfl | trivial, HC.out.2.1⟩
        case measure => simp [intOf]; omega
      · go_wp2_with fail
        go_ret
        refine ⟨⟨(j : Int), rfl, ?_⟩, rfl⟩
        rw [decide_eq_true (by omega)]
        exact (List.any_eq_true.2 ⟨q, List.mem_of_getElem? HC.out.2.2.1, HC.out.2.2.2⟩).symm
    · obtain rfl : j = n := by omega
      have hge : ¬ (j : Int) < j := by omega
      have HA := Lib.hid hany
      clear hany
      go_wp2_with fail
      go_ret
      refine ⟨⟨-1, rfl, ?_⟩, rfl⟩
      have h1 := HA.out
      rw [List.take_of_length_le (by have := H.out.2.2.2; omega)] at h1
      rw [h1]
      rfl
theorem containsP_any (p b g n c : Nat) (l : List Nat) (w : World) (hn : l.length = n) (hn64 : n ≤ 64) (hl : ∀ q ∈ l, 2 ≤ q) (hb : w.cell? ⟨b, 0, none⟩ = some (.int .u64 (p : Int))) (hc : ∀ j x, l[j]? = some x → w.cell? ⟨g, j, none⟩ = some (i64v x)) :
    Calls Tryz.prog 76 #[.slice (some ⟨g, 0, none⟩) n c, .func (.func 77) #[] #[.pointer (some ⟨b, 0, none⟩)]] w fun e w' => e = .returned (.bool (l.any fun q => p % q == 0)) ∧ w' = w := by
  have h := indexP_any p b g n c l w hn hn64 hl hb hc
  obtain ⟨r, hr⟩ : ∃ r, (l.any fun q => p % q == 0) = r := ⟨_, rfl⟩
  rw [hr] at h ⊢
  have H := Lib.hid h
  clear h hr hc hl hb hn
  go_enter Tryz.func76, Tryz.ntmps76
  go_wp2_with fail
  refine H.out.mono ?_
  rintro e w1 ⟨⟨z, rfl, hz⟩, rfl⟩
  go_wp2_with fail
  go_ret
  exact ⟨by rw [← hz]; first | rfl | (simp; done), rfl⟩
def padA (l : List Nat) : Array Value := (l.map i64v ++ List.replicate (64 - l.length) (Value.int .u64 0)).toArray
theorem padA_set (l : List Nat) (x : Nat) (h : l.length < 64) : (padA l).setIfInBounds l.length (i64v x) = padA (l ++ [x]) := by
  unfold padA
  rw [List.setIfInBounds_toArray]
  congr 1
  rw [List.set_append_right _ _ (by simp), List.map_append, List.length_append, List.length_map, Nat.sub_self]
  obtain ⟨k, hk⟩ : ∃ k, 64 - l.length = k + 1 := ⟨63 - l.length, by omega⟩
  rw [hk, List.replicate_succ, List.set_cons_zero, show 64 - (l.length + [x].length) = k by simp; omega]
  simp
theorem padA_at (l : List Nat) (h : l.length < 64) : (padA l)[l.length]? = some (.int .u64 0) := by
  unfold padA
  rw [List.getElem?_toArray, List.getElem?_append_right (by simp), List.length_map, Nat.sub_self]
  obtain ⟨k, hk⟩ : ∃ k, 64 - l.length = k + 1 := ⟨63 - l.length, by omega⟩
  rw [hk, List.replicate_succ]
  rfl
theorem padA_get (l : List Nat) (j x : Nat) (h : l[j]? = some x) : (padA l)[j]? = some (i64v x) := by
  unfold padA
  have hj := (List.getElem?_eq_some_iff.1 h).1
  rw [List.getElem?_toArray, List.getElem?_append_left (by simpa using hj), List.getElem?_map, h]
  rfl
def cellNat (w : World) (v : Value) : Nat := match v with
  | .pointer (some a) => (match w.cell? a with | some (.int _ z) => z.toNat | _ => 0)
  | _ => 0
theorem u64_info : (Tryz.prog.info? 105).map (·.size) = some 64 := rfl
theorem padA_size (l : List Nat) (h : l.length ≤ 64) : (padA l).size = 64 := by unfold padA; simp; omega
theorem padA_one (l : List Nat) : ∀ v ∈ (padA l).toList, v.oneCell' = true := by
  intro v hv
  unfold padA at hv
  simp only [List.mem_append, List.mem_map, List.mem_replicate] at hv
  rcases hv with ⟨x, _, rfl⟩ | ⟨_, rfl⟩ <;> rfl
theorem load_arr64 {w : World} {g : Nat} {l : List Nat} (hl : l.length ≤ 64) (h : Blk w g 105 (padA l)) : (loadVar 105 ⟨g, 0, none⟩).run Tryz.prog w = .ok (.agg (padA l)) w := by
  have := load_row 105 0 (padA l).toList _ Tryz.underlying105 rfl (by rw [u64_info, Array.length_toList, padA_size l hl]) h (fun j v hv => by rw [Nat.zero_add]; simpa using hv)
  simpa using this
theorem store_arr64 {w : World} {g : Nat} {l l' : List Nat} (hl : l.length ≤ 64) (hl' : l'.length ≤ 64) (h : Blk w g 105 (padA l)) : (storeVar 105 ⟨g, 0, none⟩ (.agg (padA l'))).run Tryz.prog w = .ok () (w.setRow g (padA l')) := by
  have := store_row 105 0 (padA l').toList (by rw [u64_info, Array.length_toList, padA_size l' hl']) h (by rw [Array.length_toList, padA_size l hl, padA_size l' hl']; omega) (padA_one l')
  rw [layAt_all (by rw [Array.length_toList, padA_size l hl, padA_size l' hl'])] at this
  simpa using this
set_option maxHeartbeats 4000000 in
theorem primes_any (w : World) : Calls Tryz.prog 56 #[] w fun e w' => e = .returned (.agg (padA (Sha.prun 310))) ∧ Below w.heap.size w w' := by
  obtain ⟨w1, hw1⟩ : ∃ x, w.alloc (.cells #[.int .u64 0, .int .u64 0, .int .u64 0, .int .u64 0, .int .u64 0, .int .u64 0, .int .u64 0, .int .u64 0, .int .u64 0, .int .u64 0, .int .u64 0, .int .u64 0, .int .u64 0, .int .u64 0, .int .u64 0, .int .u64 0, .int .u64 0, .int .u64 0, .int .u64 0, .int .u64 0, .int .u64 0, .int .u64 0, .int .u64 0, .int .u64 0, .int .u64 0, .int .u64 0, .int .u64 0, .int .u64 0, .int .u64 0, .int .u64 0, .int .u64 0, .int .u64 0, .int .u64 0, .int .u64 0, .int .u64 0, .int .u64 0, .int .u64 0, .int .u64 0, .int .u64 0, .int .u64 0, .int .u64 0, .int .u64 0, .int .u64 0, .int .u64 0, .int .u64 0, .int .u64 0, .int .u64 0, .int .u64 0, .int .u64 0, .int .u64 0, .int .u64 0, .int .u64 0, .int .u64 0, .int .u64 0, .int .u64 0, .int .u64 0, .int .u64 0, .int .u64 0, .int .u64 0, .int .u64 0, .int .u64 0, .int .u64 0, .int .u64 0, .int .u64 0] 105) = x := ⟨_, rfl⟩
  have hB1 : Blk w1 w.heap.size 105 (padA (Sha.prun 0)) := by rw [← hw1]; exact Blk.new w _ _
  have hb1 : Below w.heap.size w w1 := by rw [← hw1]; exact (Below.refl _ _).alloc (Nat.le_refl _) _
  have hs1 : w1.heap.size = w.heap.size + 1 := by rw [← hw1]; simp
  go_enter Tryz.func56, Tryz.ntmps56
  go_upto_region 2 with fail
  clear hw1
  have hB2 : Blk (w1.alloc (.cells #[.int .u64 2] 64)) w1.heap.size 64 #[i64v (2 + 0)] := Blk.new w1 _ _
  have hB1' := hB1.alloc (.cells #[.int .u64 2] 64)
  have hb2 := hb1.alloc hb1.size (.cells #[.int .u64 2] 64)
  have H := Lib.hid (And.intro hB1' (And.intro hB2 hb2))
  have HS := Lib.hid hs1
  clear hB1 hB1' hB2 hb1 hb2 hs1
  go_wp2_with fail
  go_loopw [1, 2] (fun v bx wr => ∃ k b : Nat, k ≤ 310 ∧ v = .int .i64 ((Sha.prun k).length : Int) ∧ bx = .pointer (some ⟨b, 0, none⟩) ∧ Blk wr w.heap.size 105 (padA (Sha.prun k)) ∧ Blk wr b 64 #[i64v (2 + k)] ∧ w.heap.size < b ∧ Below w.heap.size w wr) (fun _ bx wr => 400 - cellNat wr bx)
  case atStart => exact ⟨0, w1.heap.size, by omega, rfl, rfl, H.out.1, H.out.2.1, by have := HS.out; omega, H.out.2.2⟩
  case round =>
    obtain ⟨k, b, hk, rfl, rfl, hA, hBx, hlb, hbw⟩ := hrel
    obtain ⟨l, hl⟩ : ∃ l, Sha.prun k = l := ⟨_, rfl⟩
    obtain ⟨n, hn⟩ : ∃ n, l.length = n := ⟨_, rfl⟩
    have hmem := Sha.prun_mem k
    rw [hl] at hA hmem ⊢
    rw [hn]
    by_cases hlt : n < 64
    · have hlt' : (n : Int) < 64 := by omega
      have hz0 : (0 : Int) ≤ n := by omega
      have hz1 : (n : Int) ≤ Tryz.prog.arrayLen 105 := by
        have : Tryz.prog.arrayLen 105 = 64 := by kernel_rfl
        rw [this]
        omega
      have hz2 : (n : Int) ≤ 64 := by omega
      have hz3 : n ≤ 64 := by omega
      have hcon := containsP_any (2 + k) b w.heap.size n 64 l wr hn (by omega) (fun q hq => (hmem q hq).1) (hBx.cell 0) (fun j x hx => by rw [hA.cell]; exact padA_get l j x hx)
      obtain ⟨p, hp⟩ : ∃ p, 2 + k = p := ⟨_, rfl⟩
      rw [hp] at hcon hBx
      obtain ⟨b1, hb1⟩ : ∃ b1, (l.any fun q => p % q == 0) = b1 := ⟨_, rfl⟩
      rw [hb1] at hcon
      have hk310 := Sha.prun_lt (k := k) (by rw [hl, hn]; exact hlt)
      have hpl : p ≤ 312 := by omega
      have hbl := hBx.lt
      have hcx : wr.cell? ⟨b, 0, none⟩ = some (.int .u64 (p : Int)) := hBx.cell 0
      have hcn : wr.cell? ⟨w.heap.size, n, none⟩ = some (.int .u64 0) := by rw [hA.cell, ← hn]; exact padA_at l (by omega)
      have hfn := hA.frozen n
      have hfx := hBx.frozen 0
      have hst : Sha.prun (k + 1) = if b1 then l else l ++ [p] := by rw [Sha.prun, Sha.pstep, hl, hp, hb1]
      have HC := Lib.hid (And.intro hcon (And.intro hst (And.intro hA (And.intro hBx (And.intro hbw (And.intro hl (And.intro hn hp)))))))
      have hszw := hbw.size
      clear hcon hst hA hBx hbw hl hn hp hmem hb1
      go_wp2_with fail
      refine HC.out.1.mono ?_
      rintro e wx ⟨rfl, rfl⟩
      cases b1
      · obtain ⟨_, hst, hA, hBx, hbw, hl, hn, hp⟩ := HC.out
        have hA2 := (hA.set_ n (i64v p)).alloc (.cells #[.int .u64 ((p : Int) + 1)] 64)
        rw [show (padA l).setIfInBounds n (i64v p) = padA (l ++ [p]) from by rw [← hn]; exact padA_set l p (by omega)] at hA2
        have hb2 := (hbw.grown (grownBy_set wx ⟨w.heap.size, n, none⟩ (i64v p)) (by have := hbw.size; simpa using this) (fun j e => by injection e with e; exact Nat.le_of_eq e)).alloc (by have := hbw.size; simpa using this) (.cells #[.int .u64 ((p : Int) + 1)] 64)
        have hB2 := Blk.new (wx.setCell ⟨w.heap.size, n, none⟩ (i64v p)) 64 #[.int .u64 ((p : Int) + 1)]
        rw [show (wx.setCell ⟨w.heap.size, n, none⟩ (i64v p)).heap.size = wx.heap.size from by simp] at hB2
        have e1 : ((Sha.prun (k + 1)).length : Int) = (n : Int) + 1 := by rw [hst]; simp; omega
        have e2 : i64v (2 + (k + 1)) = .int .u64 ((p : Int) + 1) := by unfold i64v; congr 1; omega
        have hm1 : cellNat ((wx.setCell ⟨w.heap.size, n, none⟩ (.int .u64 (p : Int))).alloc (.cells #[.int .u64 ((p : Int) + 1)] 64)) (.pointer (some ⟨wx.heap.size, 0, none⟩)) = p + 1 := by
          unfold cellNat
          simp only
          have := hB2.cell 0
          unfold i64v at this
          rw [this]
          first | (simp; done) | (simp; omega)
        have hm2 : cellNat wx (.pointer (some ⟨b, 0, none⟩)) = p := by
          unfold cellNat
          simp only
          rw [hBx.cell 0]
          simp [i64v]
        have HF := Lib.hid (And.intro hA2 (And.intro hB2 (And.intro hb2 (And.intro e1 (And.intro e2 (And.intro hst (And.intro hm1 hm2)))))))
        have hlb2 : w.heap.size < wx.heap.size := by omega
        clear hst hA hBx hbw hl hn hp hA2 hb2 hB2 e1 e2 hm1 hm2
        go_wp2_with fail
        go_roundw
        case rel => exact ⟨k + 1, wx.heap.size, by omega, by rw [HF.out.2.2.2.1], rfl, by rw [HF.out.2.2.2.2.2.1]; exact HF.out.1, by rw [HF.out.2.2.2.2.1]; exact HF.out.2.1, hlb2, HF.out.2.2.1⟩
        case measure =>
          rw [HF.out.2.2.2.2.2.2.1, HF.out.2.2.2.2.2.2.2]
          omega
      · obtain ⟨_, hst, hA, hBx, hbw, hl, hn, hp⟩ := HC.out
        have hA2 := hA.alloc (.cells #[.int .u64 ((p : Int) + 1)] 64)
        have hb2 := hbw.alloc hbw.size (.cells #[.int .u64 ((p : Int) + 1)] 64)
        have hB2 := Blk.new wx 64 #[.int .u64 ((p : Int) + 1)]
        have e1 : ((Sha.prun (k + 1)).length : Int) = (n : Int) := by rw [hst]; simp; omega
        have e2 : i64v (2 + (k + 1)) = .int .u64 ((p : Int) + 1) := by unfold i64v; congr 1; omega
        have hm1 : cellNat (wx.alloc (.cells #[.int .u64 ((p : Int) + 1)] 64)) (.pointer (some ⟨wx.heap.size, 0, none⟩)) = p + 1 := by
          unfold cellNat
          simp only
          rw [hB2.cell 0]
          first | (simp; done) | (simp; omega)
        have hm2 : cellNat wx (.pointer (some ⟨b, 0, none⟩)) = p := by
          unfold cellNat
          simp only
          rw [hBx.cell 0]
          simp [i64v]
        have HF := Lib.hid (And.intro hA2 (And.intro hB2 (And.intro hb2 (And.intro e1 (And.intro e2 (And.intro hst (And.intro hm1 hm2)))))))
        have hlb2 : w.heap.size < wx.heap.size := by omega
        clear hst hA hBx hbw hl hn hp hA2 hb2 hB2 e1 e2 hm1 hm2
        go_wp2_with fail
        go_roundw
        case rel => exact ⟨k + 1, wx.heap.size, by omega, by rw [HF.out.2.2.2.1], rfl, by rw [HF.out.2.2.2.2.2.1]; exact HF.out.1, by rw [HF.out.2.2.2.2.1]; exact HF.out.2.1, hlb2, HF.out.2.2.1⟩
        case measure =>
          rw [HF.out.2.2.2.2.2.2.1, HF.out.2.2.2.2.2.2.2]
          omega
    · have hge : ¬ (n : Int) < 64 := by omega
      obtain rfl := Sha.prun_end hk (by rw [hl, hn]; exact hlt)
      have hl64 : l.length ≤ 64 := by rw [← hl, Sha.prun_310]; exact Nat.le_refl _
      have HA := Lib.hid (And.intro hA (And.intro hl (And.intro hbw hl64)))
      clear hA hl hbw hBx hmem hn hl64
      go_wp2_with (first
        | ((with_reducible refine at_load_t 105 ?_); refine wpList_load_row rfl 105 _ rfl ⟨w.heap.size, 0, none⟩ (.agg (padA l)) rfl (load_arr64 HA.out.2.2.2 HA.out.1) ?_)
        | ((with_reducible refine at_store_t 105 ?_); refine wpList_store_row rfl 105 _ _ rfl ⟨w.heap.size, 0, none⟩ (.agg (padA l)) (wr.setRow w.heap.size (padA l)) rfl rfl (store_arr64 HA.out.2.2.2 HA.out.2.2.2 HA.out.1) ?_)
        | fail)
      have hS := setRow_blk (ds := padA l) HA.out.1
      refine bodyPost_ret (results_row1 Tryz.results56 _ _ _ _ _ rfl (load_arr64 HA.out.2.2.2 hS.1)) rfl ⟨?_, HA.out.2.2.1.grown hS.2 HA.out.2.2.1.size (fun j e => by injection e with e; omega)⟩
      rw [HA.out.2.1]
end Go.Proofs.YtmpladnglfiejaaGreatDoor
