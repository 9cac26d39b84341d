/- Joined of: PeSort PeSecs. -/
import Derived.Test.YtmpladnglfiejaaGreatDoorPE
import Derived.Shelf.SlSortCmp.WholeK
import Derived.Shelf.Lay
import Derived.ChangeKeysEq
import Derived.Ground.SlsfProg
import Derived.Test.YtmpladnglfiejaaGreatDoorPD
import Derived.Deep.Cut
section
/- The sections put in their order: slices.SortedFunc of them by cmp.Compare. -/
namespace Go.Proofs.YtmpladnglfiejaaGreatDoor
open Go.RowKit Go.Shelf
open Go.Sort (Holds PermIn SortedIn SWO flatK get_flatK putRowK HoldsK)
set_option maxRecDepth 100000
set_option linter.unusedVariables false
set_option linter.unusedSimpArgs false

shelf_lay_g SlLaysF0.n6 Slsf 6 at Tryz 62 as Tryz.sortS

theorem nan_any (x : Nat) (w : World) : Calls Tryz.prog 64 #[.int .u32 (x : Int)] w fun e w' => e = .returned (.bool false) ∧ w' = w := by
  have h : ((x : Int) != x) = false := by simp
  go_enter Tryz.func64, Tryz.ntmps64
  go_wp2
  go_ret
  exact ⟨rfl, rfl⟩
theorem cmp_any (x y : Nat) (w : World) : Calls Tryz.prog 40 #[.int .u32 (x : Int), .int .u32 (y : Int)] w fun e w' => e = .returned (.int .i64 (Lib.compareInt x y)) ∧ w' = w := by
  have h1 := fun W => nan_any x W
  have h2 := fun W => nan_any y W
  have H := Lib.hid (And.intro h1 h2)
  clear h1 h2
  unfold Lib.compareInt
  by_cases a : (x : Int) < y
  · rw [if_pos a]
    go_enter Tryz.func40, Tryz.ntmps40
    go_wp2_with fail
    refine (H.out.1 _).mono ?_
    rintro e w1 ⟨rfl, rfl⟩
    go_wp2_with fail
    refine (H.out.2 _).mono ?_
    rintro e w1 ⟨rfl, rfl⟩
    go_wp2
    go_ret
    exact ⟨rfl, rfl⟩
  · rw [if_neg a]
    by_cases b : (y : Int) < x
    · rw [if_pos b]
      go_enter Tryz.func40, Tryz.ntmps40
      go_wp2_with fail
      refine (H.out.1 _).mono ?_
      rintro e w1 ⟨rfl, rfl⟩
      go_wp2_with fail
      refine (H.out.2 _).mono ?_
      rintro e w1 ⟨rfl, rfl⟩
      go_wp2
      go_ret
      exact ⟨rfl, rfl⟩
    · rw [if_neg b]
      go_enter Tryz.func40, Tryz.ntmps40
      go_wp2_with fail
      refine (H.out.1 _).mono ?_
      rintro e w1 ⟨rfl, rfl⟩
      go_wp2_with fail
      refine (H.out.2 _).mono ?_
      rintro e w1 ⟨rfl, rfl⟩
      go_wp2
      go_ret
      exact ⟨rfl, rfl⟩
def secCf (x y : Nat × Nat) : Int := Lib.compareInt (x.1 : Int) (y.1 : Int)
theorem sec_lt (x y : Nat × Nat) : ltOf secCf x y = decide (x.1 < y.1) := by
  unfold ltOf secCf Lib.compareInt
  by_cases h1 : (x.1 : Int) < y.1
  · have : x.1 < y.1 := by omega
    simp [h1, this]
  · by_cases h2 : (y.1 : Int) < x.1
    · have : ¬ x.1 < y.1 := by omega
      simp [h1, h2, this]
    · have : ¬ x.1 < y.1 := by omega
      simp [h1, h2, this]
theorem sec_swo : SWO (ltOf secCf) where
  irrefl x := by rw [sec_lt]; simp
  trans x y z h1 h2 := by rw [sec_lt] at *; simp at *; omega
  ntrans x y z h1 h2 := by rw [sec_lt] at *; simp at *; omega
theorem secCmp_any (x y : Nat × Nat) (W : World) : Calls Tryz.prog 72 #[.agg #[.int .u32 (x.1 : Int), .int .u32 (x.2 : Int)], .agg #[.int .u32 (y.1 : Int), .int .u32 (y.2 : Int)]] W fun e w' => e = .returned (.int .i64 (secCf x y)) ∧ ∃ q os', w' = Go.Sort.grow (W.drewN q) os' := by
  have hcon := fun W' => cmp_any x.1 y.1 W'
  unfold secCf
  generalize Lib.compareInt (x.1 : Int) (y.1 : Int) = r at hcon ⊢
  go_enter Tryz.func72, Tryz.ntmps72
  go_wp2_with (go_at_call 40; refine (hcon _).mono ?_; rintro e w' ⟨rfl, rfl⟩)
  go_ret
  exact ⟨rfl, 0, _, by rw [Go.Sort.alloc_eq_grow, Go.Sort.alloc_eq_grow, Go.Sort.grow_grow]; rfl⟩
theorem sec_isAgg (w : World) : (isAgg 59).run Tryz.prog w = .ok true w := by
  simp [isAgg, run_underlying Tryz.underlying59]
theorem sec_sizeOf (w : World) : (Go.sizeOf 59).run Tryz.prog w = .ok 2 w := by
  obtain ⟨i0, hi, _⟩ := info_parts sec_info
  have h2 : Tryz.prog.cellsOf 59 = 2 := by kernel_rfl
  have := run_sizeOf (w := w) hi
  rwa [h2] at this
theorem sec_flat (L : List (Nat × Nat)) (j : Nat) (hj : j < L.length * 2) : (L.flatMap secC)[j]? = some ((flatK secC 2 L.toArray)[j]!) := by
  rw [get_flatK secC 2 L.toArray j (by simpa using hj)]
  have hk : j / 2 < L.length := by omega
  obtain ⟨x, hx⟩ : ∃ x, L[j / 2]? = some x := ⟨L[j / 2], List.getElem?_eq_getElem hk⟩
  obtain ⟨g1, g2⟩ := secC_get L (j / 2) x hx
  have e : L.toArray[j / 2]! = x := by
    rw [getElem!_pos _ _ (by simpa using hk)]
    simpa [List.getElem?_eq_getElem hk] using hx
  rw [e]
  rcases Nat.mod_two_eq_zero_or_one j with h | h
  · have e2 : (L.flatMap secC)[j]? = (L.flatMap secC)[j / 2 * 2]? := by congr 1; omega
    rw [e2, g1, h]; rfl
  · have e2 : (L.flatMap secC)[j]? = (L.flatMap secC)[j / 2 * 2 + 1]? := by congr 1; omega
    rw [e2, g2, h]; rfl
theorem sortWorldK_below (w : World) (blk off m : Nat) (dk : Array (Nat × Nat)) (os : Array Obj) {B : Nat} (hB : B ≤ blk) (hs : blk < w.heap.size) : Below B w (sortWorldK secC 2 w blk off m dk os) := by
  unfold sortWorldK putRowK
  have hp : (Go.Sort.putRow id (Go.Sort.ahead w m) blk off (flatK secC 2 dk)).heap.size = w.heap.size := by rw [size_putRow]; rfl
  refine ⟨rfl, rfl, rfl, by rw [Go.Sort.size_grow, hp]; omega, fun k hk => ?_⟩
  rw [Go.Sort.heap_grow_old _ _ (by rw [hp]; omega)]
  show (w.heap.modify blk _)[k]? = _
  rw [Array.getElem?_modify, if_neg (by omega)]

set_option maxHeartbeats 1000000 in
theorem sortSec_any (g cap : Nat) (L : List (Nat × Nat)) (w : World) {n₀ : Nat} {cur : Array Value} (hB : w.heap[g]? = some (.cells cur 59 (0, 0))) (hcur : cur.toList.take (L.length * 2) = L.flatMap secC) (hn : n₀ ≤ g) (hsz : L.length ≤ 1099511627776) :
    Calls Tryz.prog 62 #[.slice (some ⟨g, 0, none⟩) L.length cap, .func (.func 72) #[] #[]] w fun e w' => e = .returned (.tuple #[]) ∧ Below n₀ w w' ∧
      ∃ L' : List (Nat × Nat), L'.Perm L ∧ Pe.Rising L' ∧ ∀ j v, (L'.flatMap secC)[j]? = some v → w'.cell? ⟨g, j, none⟩ = some v := by
  have hg : g < w.heap.size := (Array.getElem?_eq_some_iff.1 hB).1
  have eg : ∀ args w, (callFunc 72 args).run Tryz.prog w = .ok (.enter 72 args) w := enters_of Tryz.func72 (by kernel_rfl) rfl
  have hcmp : CmpLays Tryz.prog 72 #[] secC 2 secCf g 0 L.toArray.size w := fun _ _ _ _ x y => secCmp_any x y _
  have hH : HoldsK secC 2 w g 0 L.toArray := fun j hj => by
    have hj' : j < L.length * 2 := by simpa using hj
    have hv := sec_flat L j hj'
    rw [← hcur, List.getElem?_take, if_pos hj'] at hv
    rw [Nat.zero_add]
    refine ⟨?_, ?_⟩
    · simp only [World.cell?, hB]
      simpa using hv
    · simp [World.frozen?, hB]
  have hcon := AnyQ.slices_SortFunc Tryz.sortS 2 sec_isAgg sec_sizeOf secC (fun _ => rfl) (fun x v hv => by simp [secC] at hv; rcases hv with rfl | rfl <;> rfl) secCf sec_swo 72 #[] g 0 cap L.toArray w eg hcmp hH hg (by simp; omega)
  rw [List.size_toArray] at hcon
  refine hcon.mono ?_
  rintro e w' ⟨rfl, d', n, os, hp, hs, rfl⟩
  have hps : d'.size = L.length := by rw [hp.1]; simp
  have hpp : d'.toList.Perm L := by
    have h3 := hp.2.2
    rw [Array.extract_eq_self_of_le (by rw [hps]; exact Nat.le_refl _), Array.extract_eq_self_of_le (by simp)] at h3
    simpa using h3
  refine ⟨rfl, sortWorldK_below _ _ _ _ _ _ hn hg, d'.toList, hpp, ?_, ?_⟩
  · unfold Pe.Rising
    rw [List.pairwise_iff_getElem]
    intro i j hi hj hij
    have hi' : i < d'.size := by simpa using hi
    have hj' : j < d'.size := by simpa using hj
    have := hs i j (Nat.zero_le _) hij (by rw [← hps]; exact hj')
    rw [sec_lt, getElem!_pos d' i hi', getElem!_pos d' j hj'] at this
    simp at this
    simpa using this
  · intro j v hv
    have hjl : j < d'.toList.length * 2 := by
      have := (List.getElem?_eq_some_iff.1 hv).1
      rwa [secC_len] at this
    have hv2 := sec_flat d'.toList j hjl
    rw [hv] at hv2
    injection hv2 with hv2
    have hh := holdsK_sortWorldK_c secC 2 w g 0 L.toArray d' n os hH hg (by simpa using hps) j (by simpa using hjl)
    have h1 := hh.1
    rw [Nat.zero_add] at h1
    rw [h1, hv2]
    simp

/-! No element: nothing turns (the lines of the library's own proof, turned to this program). -/
set_option maxHeartbeats 1000000 in
theorem insNone_any (p : Option Addr) (cap : Nat) (fv : Value) (w : World) : Calls Tryz.prog 99 #[.slice p 0 cap, .int .i64 0, .int .i64 0, fv] w fun e w' => e = .returned (.tuple #[]) ∧ w' = w := by
  go_enter Tryz.func99, Tryz.ntmps99
  go_wp2
  refine wp_loop_rounds 1 ?_
  rw [rounds_succ]
  go_wp2
  go_end0
  exact ⟨rfl, rfl⟩
set_option maxHeartbeats 1000000 in
theorem pdqNone_any (p : Option Addr) (cap : Nat) (lim : Int) (fv : Value) (w : World) : Calls Tryz.prog 84 #[.slice p 0 cap, .int .i64 0, .int .i64 0, .int .i64 lim, fv] w fun e w' => e = .returned (.tuple #[]) ∧ w' = w := by
  have hi := fun W => insNone_any p cap fv W
  go_enter Tryz.func84, Tryz.ntmps84
  go_wp2
  refine wp_loop_rounds 1 ?_
  rw [rounds_succ]
  go_wp2_with (go_at_call 99; refine (hi _).mono ?_; rintro e w' ⟨rfl, rfl⟩)
  (try simp only [Exit.inBlock, Exit.then]); refine bodyPost_ret (results_none rfl _ _ _) rfl ?_
  exact ⟨rfl, rfl⟩
set_option maxHeartbeats 1000000 in
theorem sortNil_any (p : Option Addr) (cap : Nat) (fv : Value) (w : World) : Calls Tryz.prog 62 #[.slice p 0 cap, fv] w fun e w' => e = .returned (.tuple #[]) ∧ w' = w := by
  have hp := fun lim W => pdqNone_any p cap lim fv W
  have hl : ∀ W, Calls Tryz.prog 85 #[.int .u64 0] W fun e w' => e = .returned (.int .i64 (Lib.bitLen 0 : Nat)) ∧ w' = W := fun W => by
    have h := Any.bits_Len (SlLaysF0.n15.bits { Tryz.sortS with }) 0 W (by omega) (by omega)
    exact h
  go_enter Tryz.func62, Tryz.ntmps62
  go_wp2_with (first | (go_at_call 85; refine (hl _).mono ?_; rintro e w' ⟨rfl, rfl⟩) | (go_at_call 84; refine (hp _ _).mono ?_; rintro e w' ⟨rfl, rfl⟩))
  go_end0
  exact ⟨rfl, rfl⟩

/-- The sections in their order, in a row of the call's own. -/
def SortedPost (L : List (Nat × Nat)) (w : World) (e : Ending) (w' : World) : Prop :=
  ∃ (A' : Option Addr) (m' c' : Nat) (L' : List (Nat × Nat)), e = .returned (.slice A' m' c') ∧ RdS w' w'.heap.size A' m' c' L' ∧ L'.Perm L ∧ Pe.Rising L' ∧ Below w.heap.size w w' ∧ ∀ b o, A' = some ⟨b, o, none⟩ → w.heap.size ≤ b
set_option maxHeartbeats 1000000 in
theorem sortedSec_any (Bn : Nat) (A : Option Addr) (m c : Nat) (L : List (Nat × Nat)) (w : World) (hr : RdS w w.heap.size A m c L) (hm : m ≤ 1099511627776) (hBn : w.cell? ⟨Bn, 0, none⟩ = some (.slice A m c)) (hBl : Bn < w.heap.size) :
    Calls Tryz.prog 37 #[.func (.func 63) #[] #[.pointer (some ⟨Bn, 0, none⟩)], .func (.func 72) #[] #[]] w (SortedPost L w) := by
  have hlen := hr.len
  have hcol := collect_any Bn A m c L w hr hm hBn hBl
  go_enter Tryz.func37, Tryz.ntmps37
  go_wp2_with fail
  refine hcol.mono ?_
  rintro e w1 ⟨v, rfl, hrow, hb⟩
  rw [hlen] at hrow
  have HR := Lib.hid (And.intro hr hrow)
  clear hcol hr
  rcases hrow.2 with ⟨rfl, h0⟩ | ⟨g, cap, cur, rfl, hg0, hgb, hle, hmax, hcs, htk⟩
  · obtain rfl : L = [] := List.eq_nil_of_length_eq_zero (by omega)
    clear hrow
    go_wp2_with fail
    refine (sortNil_any none 0 _ w1).mono ?_
    rintro e w2 ⟨rfl, rfl⟩
    go_wp2
    go_ret
    exact ⟨none, 0, 0, [], rfl, RdS.none_, List.Perm.refl _, List.Pairwise.nil, hb, fun _ _ e => by cases e⟩
  · have HH := Lib.hid (And.intro hle (And.intro hmax (And.intro hgb (And.intro htk hb))))
    clear hrow hgb htk hcs hle hmax hb
    have hso := sortSec_any g cap L w1 (n₀ := w.heap.size) HH.out.2.2.1 (by have := HH.out.2.2.2.1; rw [hlen]; exact this) hg0 (by omega)
    rw [hlen] at hso
    have HSO := Lib.hid hso
    clear hso
    go_wp2_with fail
    refine HSO.out.mono ?_
    rintro e w2 ⟨rfl, hb2, L', hp, ho, hc⟩
    have H2 := Lib.hid (And.intro hb2 (And.intro hp (And.intro ho hc)))
    clear hb2 hp ho hc
    go_wp2
    go_ret
    obtain ⟨hle, hmax, hgb, _, hb⟩ := HH.out
    obtain ⟨hb2, hp, ho, hc⟩ := H2.out
    have hb3 := hb.trans hb2
    have hgl : g < w1.heap.size := (Array.getElem?_eq_some_iff.1 hgb).1
    have hg2 : g < _ := Nat.lt_of_lt_of_le hgl hb2.size
    refine ⟨_, _, _, L', rfl, ⟨hp.length_eq.trans hlen, by simpa using hle, by simpa [maxLen] using hmax, fun _ => ⟨g, 0, rfl, hg2⟩, ⟨by rw [secC_len, hp.length_eq, hlen], fun _ => ⟨_, rfl, hg2, ?_⟩⟩⟩, hp, ho, hb3, fun b o e => by injection e with e; injection e with e _; omega⟩
    intro j u hu
    rw [Addr.add_lit, Nat.zero_add]
    exact hc j u hu
end Go.Proofs.YtmpladnglfiejaaGreatDoor
end

section
/- The contract of the reader's sections. -/
namespace Go.Proofs.YtmpladnglfiejaaGreatDoor
open Go.RowKit
set_option maxRecDepth 100000
set_option linter.unusedVariables false
set_option linter.unusedSimpArgs false

namespace Pe
theorem tiles_snoc : ∀ (l : List (Nat × Nat)) (h : Nat) (x : Nat × Nat), tiles h (l ++ [x]) = (tiles h l && (x.1 == h + sizes l))
  | [], h, x => by
    obtain ⟨o, s⟩ := x
    rw [List.nil_append, tiles, tiles, tiles]
    simp [sizes]
  | (o, s) :: l, h, x => by
    rw [List.cons_append, tiles, tiles, tiles_snoc l (h + s) x]
    have : sizes ((o, s) :: l) = s + sizes l := by unfold sizes; rw [List.map_cons, List.sum_cons]
    rw [this, Bool.and_assoc, Nat.add_assoc]
theorem sizes_snoc (l : List (Nat × Nat)) (x : Nat × Nat) : sizes (l ++ [x]) = sizes l + x.2 := by simp [sizes]
theorem sizes_le {m : Nat} : ∀ (l : List (Nat × Nat)), (∀ x ∈ l, x.2 ≤ m) → sizes l ≤ l.length * m
  | [], _ => by simp [sizes]
  | x :: l, h => by
    have h1 := sizes_le l fun y hy => h y (by simp [hy])
    have h2 := h x (by simp)
    have : sizes (x :: l) = x.2 + sizes l := by unfold sizes; rw [List.map_cons, List.sum_cons]
    rw [this, List.length_cons, Nat.succ_mul]; omega
theorem secs_small (xs : List UInt8) : ∀ x ∈ secs xs, x.1 < 4294967296 ∧ x.2 < 4294967296 := fun x hx => by
  obtain ⟨i, _, hi⟩ := List.mem_filterMap.1 hx
  unfold secAt at hi
  split at hi
  · cases hi
  · injection hi with hi
    subst hi
    exact ⟨at_lt4 _ _, at_lt4 _ _⟩
def secsTo (xs : List UInt8) (k : Nat) : List (Nat × Nat) := (List.range k).filterMap (secAt xs)
theorem secsTo_succ (xs : List UInt8) (k : Nat) : secsTo xs (k + 1) = secsTo xs k ++ (match secAt xs k with | some x => [x] | none => []) := by
  unfold secsTo
  rw [List.range_succ, List.filterMap_append]
  congr 1
  cases h : secAt xs k <;> simp [h]
theorem secsTo_len (xs : List UInt8) (k : Nat) : (secsTo xs k).length ≤ k := by
  have : (secsTo xs k).length ≤ (List.range k).length := List.length_filterMap_le _ _
  simpa using this
end Pe
theorem reads_twoS (w : World) (t : TypeId) (a b : Value) (q : Nat) (hq : q = w.heap.size) : Reads (w.alloc (.cells #[a, b] t)) (q + 1) 2 (some ⟨q, 0, none⟩) 1 [a, b] := by
  subst hq
  refine ⟨rfl, fun _ => ⟨_, rfl, by simp, fun j x hx => ?_⟩⟩
  rw [Addr.add_lit]
  have := (Blk.new w t #[a, b]).cell (0 + j)
  rw [this, Nat.zero_add]
  simpa using hx
theorem secValues_any (A : Option Addr) (n c : Nat) (w : World) :
    Calls Tryz.prog 38 #[.slice A n c] w fun e w' => e = .returned (.func (.func 63) #[] #[.pointer (some ⟨w.heap.size, 0, none⟩)]) ∧ w' = w.alloc (.cells #[.slice A n c] 27) := by
  go_enter Tryz.func38, Tryz.ntmps38
  go_wp2
  go_ret
  exact ⟨rfl, rfl⟩
/-- What sections answers, and what it leaves. -/
def SecsPost (g : Nat) (s : Value) (xs : List UInt8) (f : Bool) (w : World) (e : Ending) (w' : World) : Prop :=
  ∃ A m c, e = .returned (.tuple #[.slice A m c, .int .i64 (Pe.end_ xs : Int)]) ∧ OwnC 59 2 w' w.heap.size w'.heap.size (.slice A m c) m ((Pe.secs xs).flatMap secC) ∧ Stp g s (f && Pe.laid xs) w w'
set_option maxHeartbeats 4000000 in
theorem sections_any (g : Nat) (A : Option Addr) (n c : Nat) (xs : List UInt8) (f : Bool) (w : World) (h : Blk w g 70 #[.slice A n c, .bool f]) (hr : Rd w g A n c xs) (hn : n ≤ 16777216)
    (hT : Pe.table xs + 40 * Pe.many xs ≤ xs.length) (hH : Pe.headers xs ≤ xs.length) (hM : Pe.many xs ≤ 96) :
    Calls Tryz.prog 54 #[.pointer (some ⟨g, 0, none⟩), .int .i64 (Pe.table xs : Int), .int .i64 (Pe.many xs : Int), .int .i64 (Pe.headers xs : Int)] w (SecsPost g (.slice A n c) xs f w) := by
  have hl := hr.len
  have hgl := h.lt
  obtain ⟨t, ht⟩ : ∃ t, Pe.table xs = t := ⟨_, rfl⟩
  obtain ⟨m, hm⟩ : ∃ m, Pe.many xs = m := ⟨_, rfl⟩
  obtain ⟨hd, hhd⟩ : ∃ hd, Pe.headers xs = hd := ⟨_, rfl⟩
  rw [ht, hm] at hT
  rw [hm] at hM
  rw [hhd] at hH
  rw [ht, hm, hhd]
  have H := Lib.hid (And.intro h (And.intro hr (And.intro ht (And.intro hm hhd))))
  clear h hr ht hm hhd
  go_enter Tryz.func54, Tryz.ntmps54
  go_wp2_with fail
  go_loopw [8, 16] (fun v i wr => ∃ k : Nat, k ≤ m ∧ i = .int .i64 k ∧ OwnC 59 2 wr w.heap.size wr.heap.size v (Pe.secsTo xs k).length ((Pe.secsTo xs k).flatMap secC) ∧ Stp g (.slice A n c) f w wr) (fun _ i _ => m - (intOf i).toNat)
  case atStart => exact ⟨0, Nat.zero_le _, rfl, OwnC.nil_, H.out.1, grown_refl _ _⟩
  case round =>
    obtain ⟨k, hk, rfl, ho, hS⟩ := hrel
    by_cases hlt : k < m
    · have hlt' : (k : Int) < m := by omega
      have hgs := hS.grown.size
      obtain ⟨p, hp⟩ : ∃ p, t + 40 * k = p := ⟨_, rfl⟩
      have hpl : p + 40 ≤ xs.length := by omega
      have ep : (t : Int) + 40 * (k : Int) = (p : Int) := by omega
      have hin : ∀ q, q ≤ 36 → Pe.inb xs (p + q) 4 = true := fun q hq => by unfold Pe.inb; simp; omega
      have hat1 := at_at g A n c xs f (p + 20) 4 ((p : Int) + 20) wr (by omega) hS.blk (rd_grown H.out.2.1 hS.grown (Nat.le_refl _) hgl) (by omega) (by omega) (.inr (.inr rfl)) 4 rfl
      rw [hin 20 (by omega), Bool.and_true] at hat1
      have hlen := Pe.secsTo_len xs k
      have h1 := Pe.at_lt4 xs (p + 20)
      have h2 := Pe.at_lt4 xs (p + 16)
      have hsec : Pe.secAt xs k = if Pe.at_ xs (p + 16) 4 = 0 then none else some (Pe.at_ xs (p + 20) 4, Pe.at_ xs (p + 16) 4) := by
        unfold Pe.secAt
        rw [H.out.2.2.1, hp]
      obtain ⟨a, ha⟩ : ∃ a, Pe.at_ xs (p + 20) 4 = a := ⟨_, rfl⟩
      obtain ⟨b, hb⟩ : ∃ b, Pe.at_ xs (p + 16) 4 = b := ⟨_, rfl⟩
      rw [ha] at hat1 h1 hsec
      rw [hb] at h2 hsec
      have hwa : IntKind.u32.wrap (a : Int) = (a : Int) := by simp only [IntKind.wrap, IntKind.bits, IntKind.signed]; simp; omega
      have hwb : IntKind.u32.wrap (b : Int) = (b : Int) := by simp only [IntKind.wrap, IntKind.bits, IntKind.signed]; simp; omega
      have HO := Lib.hid (And.intro ho (And.intro hS (And.intro hin (And.intro hat1 (And.intro hlen (And.intro hsec hb))))))
      have hpl' := hpl
      clear ho hS hin hat1 hsec ha hb hp hlen
      go_wp2_with fail
      refine HO.out.2.2.2.1.mono ?_
      rintro e w1 ⟨rfl, hS1⟩
      have hS1' := HO.out.2.1.trans hS1
      have hat2 := at_at g A n c xs f (p + 16) 4 ((p : Int) + 16) w1 (by omega) hS1'.blk (rd_grown H.out.2.1 hS1'.grown (Nat.le_refl _) hgl) (by omega) (by omega) (.inr (.inr rfl)) 4 rfl
      rw [HO.out.2.2.1 16 (by omega), Bool.and_true, HO.out.2.2.2.2.2.2] at hat2
      have H1 := Lib.hid (And.intro hS1 (And.intro hS1' hat2))
      clear hS1 hS1' hat2
      go_wp2_with fail
      refine H1.out.2.2.mono ?_
      rintro e w2 ⟨rfl, hS2⟩
      have hS12 := H1.out.1.trans hS2
      have hS2' := H1.out.2.1.trans hS2
      have ho2 := (own_grown HO.out.1 hS12.grown (by omega) (Nat.le_refl _))
      have hs12 := hS12.grown.size
      have H2 := Lib.hid (And.intro hS2' ho2)
      clear hS2 hS12 hS2' ho2
      by_cases hb0 : b = 0
      · subst hb0
        go_wp2_with fail
        go_roundw
        case rel =>
          have e : Pe.secsTo xs (k + 1) = Pe.secsTo xs k := by
            rw [Pe.secsTo_succ, HO.out.2.2.2.2.2.1]; simp
          refine ⟨k + 1, by omega, by go_num, ?_, (H2.out.1.blk.alloc _), grown_below H2.out.1.grown ((Below.refl _ _).alloc (Nat.le_refl _) _)⟩
          rw [e]
          exact (H2.out.2.alloc hs12 _).mono (Nat.le_refl _) (by simp; omega)
        case measure => simp [intOf]; omega
      · have hb0' : (0 : Int) < b := by omega
        go_wp2_with
          (at_builtin
           refine wpList_appC rfl (.tmp 37) (.tmp 39) 27 rfl 59 _ 2 8 sec_info Tryz.underlying27 rfl (by omega) w.heap.size wr.heap.size _ (Pe.secsTo xs k).length ((Pe.secsTo xs k).flatMap secC) rfl ((H2.out.2.alloc hs12 _).alloc (by simp; omega) _) (by simp; have := H2.out.1.grown.size; omega) _ _ 1 1 [.int .u32 (a : Int), .int .u32 (b : Int)] rfl (reads_twoS _ _ _ _ _ (by simp)) (by simp [Value.oneCell']) (by have := HO.out.2.2.2.2.1; omega) (by have := HO.out.2.2.2.2.1; omega) ?_
           intro v6 w6 ho6 hg6 hat6 hb6
           have H6 := Lib.hid (And.intro ho6 (And.intro hg6 hb6))
           clear ho6 hg6 hat6 hb6)
        go_roundw
        case rel =>
          have e : Pe.secsTo xs (k + 1) = Pe.secsTo xs k ++ [(a, b)] := by
            rw [Pe.secsTo_succ, HO.out.2.2.2.2.2.1, if_neg hb0]
          have hal := ((H2.out.2.alloc hs12 (.cells #[.int .u32 (a : Int), .int .u32 (b : Int)] 59)).alloc (by simp; omega) (.cells #[.int .u32 (a : Int), .int .u32 (b : Int)] 59)).1
          have hbb : Below w2.heap.size w2 ((w2.alloc (.cells #[.int .u32 (a : Int), .int .u32 (b : Int)] 59)).alloc (.cells #[.int .u32 (a : Int), .int .u32 (b : Int)] 59)) := by (repeat (first | exact Below.refl _ _ | assumption | (refine Below.setCell ?_ (by first | omega | (simp; done) | (simp; omega)) _) | (refine Below.alloc ?_ (by first | omega | (simp; done) | (simp; omega)) _) | (refine below_drewN ?_ _) | (refine Below.drew ?_)))
          have hg6 := grown_on (grown_below H2.out.1.grown hbb) H6.out.2.1 (fun j hj => .inl (hal.lt j hj).1)
          refine ⟨k + 1, by omega, by go_num, ?_, ?_, hg6⟩
          · rw [e, List.length_append, List.flatMap_append]
            exact H6.out.1
          · exact Blk.below (B := w.heap.size) ((H2.out.1.blk.alloc _).alloc _) H6.out.2.2 hgl
        case measure => simp [intOf]; omega
    · obtain rfl : k = m := by omega
      have hge : ¬ (k : Int) < k := by omega
      have hsecs : Pe.secsTo xs k = Pe.secs xs := by unfold Pe.secsTo Pe.secs; rw [H.out.2.2.2.1]
      obtain ⟨L, hL⟩ : ∃ L, Pe.secs xs = L := ⟨_, rfl⟩
      have hLp : ∀ x ∈ L, 0 < x.2 ∧ x.1 < 4294967296 ∧ x.2 < 4294967296 := fun x hx => by
        rw [← hL] at hx
        exact ⟨Pe.secs_pos xs x hx, Pe.secs_small xs x hx⟩
      have hLl : L.length ≤ k := by rw [← hL, ← hsecs]; exact Pe.secsTo_len xs k
      rw [hsecs, hL] at ho
      obtain ⟨Av, cv, rfl, hrd⟩ := ho.rdS
      obtain ⟨lm, hlm⟩ : ∃ lm, L.length = lm := ⟨_, rfl⟩
      rw [hlm] at ho hrd ⊢
      have hsz := hS.grown.size
      obtain ⟨w3, hw3⟩ : ∃ w3, w3 = wr := ⟨_, rfl⟩
      subst hw3
      have HO := Lib.hid (And.intro ho (And.intro hS (And.intro hL (And.intro hLp (And.intro hrd hlm)))))
      clear ho hS hsecs hL hLp hrd
      have hba := (Below.refl w3.heap.size w3).alloc (Nat.le_refl _) (.cells #[.slice Av lm cv] 27)
      have HA := Lib.hid hba
      clear hba
      go_wp2_with fail
      refine (secValues_any Av lm cv _).mono ?_
      rintro e w4 ⟨rfl, rfl⟩
      go_wp2_with fail
      refine (sortedSec_any w3.heap.size Av lm cv L _ (HO.out.2.2.2.2.1.up HA.out) (by omega) (by simp) (by simp)).mono ?_
      rintro e w5 ⟨A5, m5, c5, S, rfl, hrS, hp, hri, hb5, hlo⟩
      have hb35 : Below w3.heap.size w3 w5 := HA.out.trans (hb5.mono (by simp))
      have hSl : S.length = m5 := hrS.len
      have hm5 : m5 ≤ 96 := by rw [← hSl, hp.length_eq, HO.out.2.2.2.2.2]; omega
      have hs35 := hb35.size
      have hS5 : Stp g (.slice A n c) f w w5 := ⟨HO.out.2.1.blk.below hb35 (by omega), grown_below HO.out.2.1.grown hb35⟩
      have H5 := Lib.hid (And.intro hrS (And.intro hp (And.intro hri (And.intro hlo (And.intro hb35 (And.intro hS5 hSl))))))
      clear hrS hp hri hb5 hlo hb35 hS5 hSl
      go_wp2_with fail
      go_loopw [9, 47] (fun en i wr => ∃ j : Nat, j ≤ m5 ∧ i = .int .i64 j ∧ en = .int .i64 ((hd + Pe.sizes (S.take j) : Nat) : Int) ∧ w5.grownBy wr (some g) ∧ Blk wr g 70 #[.slice A n c, .bool (f && Pe.tiles hd (S.take j))]) (fun _ i _ => m5 - (intOf i).toNat)
      case atStart => exact ⟨0, Nat.zero_le _, rfl, rfl, grown_refl _ _, by simpa [Pe.tiles] using H5.out.2.2.2.2.2.1.blk⟩
      case round =>
        obtain ⟨j, hj, rfl, rfl, hg5, hB5⟩ := hrel
        have hszj : hd + Pe.sizes (S.take j) ≤ 17179869184 * 64 := by
          have h1 := Pe.sizes_le (m := 4294967296) (S.take j) (fun x hx => Nat.le_of_lt (HO.out.2.2.2.1 x (H5.out.2.1.mem_iff.1 (List.mem_of_mem_take hx))).2.2)
          have h2 : (S.take j).length ≤ 96 := by rw [List.length_take]; omega
          have h3 := Nat.le_trans h1 (Nat.mul_le_mul_right 4294967296 h2)
          omega
        have hg5s := hg5.size
        by_cases hltj : j < m5
        · have hltj' : (j : Int) < m5 := by omega
          obtain ⟨b5, o5, x, rfl, hb5, hx, hc0, hc1⟩ := H5.out.1.get hltj
          have hblo := H5.out.2.2.2.1 b5 o5 rfl
          simp at hblo
          have hgw3 : g < w3.heap.size := by omega
          have hk0 := (World.cell?_of_block (a := ⟨b5, o5 + j * 2, none⟩) (hg5.block b5 hb5 (fun e => by injection e with e; omega))).trans hc0
          have hk1 := (World.cell?_of_block (a := ⟨b5, o5 + j * 2 + 1, none⟩) (hg5.block b5 hb5 (fun e => by injection e with e; omega))).trans hc1
          obtain ⟨hx0, hx1, hx2⟩ := HO.out.2.2.2.1 x (H5.out.2.1.mem_iff.1 (List.mem_of_getElem? hx))
          have htk := take_snoc hx
          obtain ⟨z, hz⟩ : ∃ z, hd + Pe.sizes (S.take j) = z := ⟨_, rfl⟩
          have hzz : Pe.tiles hd (S.take (j + 1)) = (Pe.tiles hd (S.take j) && (x.1 == z)) := by rw [htk, Pe.tiles_snoc, hz]
          have hz2 : hd + Pe.sizes (S.take (j + 1)) = z + x.2 := by rw [htk, Pe.sizes_snoc, ← hz]; omega
          rw [hz] at hszj ⊢
          have hwx : IntKind.i64.wrap (x.1 : Int) = (x.1 : Int) := by rw [IntKind.wrap_i64]; omega
          have hwy : IntKind.i64.wrap (x.2 : Int) = (x.2 : Int) := by rw [IntKind.wrap_i64]; omega
          obtain ⟨x1, x2⟩ := x
          dsimp only at hx0 hx1 hx2 hk0 hk1 hzz hz2 hwx hwy
          have hal := (Below.refl wr.heap.size wr).alloc (Nat.le_refl _) (.cells #[.int .u32 (x1 : Int), .int .u32 (x2 : Int)] 59)
          have hmu := must_any g (.slice A n c) (f && Pe.tiles hd (S.take j)) ((x1 : Int) == (z : Int)) _ (hB5.alloc (.cells #[.int .u32 (x1 : Int), .int .u32 (x2 : Int)] 59)) ⟨_, _, _, rfl⟩
          have hXb := Blk.new wr 59 #[.int .u32 (x1 : Int), .int .u32 (x2 : Int)]
          have hgr : g < wr.heap.size := hB5.lt
          have HJ := Lib.hid (And.intro hg5 (And.intro hzz (And.intro hz2 (And.intro hal (And.intro hmu hXb)))))
          clear hg5 hzz hz2 hal hmu hXb hx htk hz hc0 hc1 hB5
          go_wp2_with fail
          refine HJ.out.2.2.2.2.1.mono ?_
          rintro e w6 ⟨rfl, hS6⟩
          have hX6 : Blk w6 wr.heap.size 59 #[.int .u32 (x1 : Int), .int .u32 (x2 : Int)] := HJ.out.2.2.2.2.2.grown hS6.grown (fun e => by injection e with e; omega)
          obtain ⟨hcX, _⟩ := hX6.facts
          have hcX1 : w6.cell? ⟨wr.heap.size, 1, none⟩ = some (.int .u32 (x2 : Int)) := hcX 1
          have H6 := Lib.hid hS6
          clear hS6 hX6 hcX
          go_wp2_with fail
          go_roundw
          case rel =>
            refine ⟨j + 1, by omega, by go_num, by rw [HJ.out.2.2.1]; go_num, grown_on (grown_below HJ.out.1 HJ.out.2.2.2.1) H6.out.grown (fun k e => .inr (by injection e with e; exact e.symm)), ?_⟩
            have := H6.out.blk
            rw [int_beq, Bool.and_assoc, ← HJ.out.2.1] at this
            exact this
          case measure => simp [intOf]; omega
        · obtain rfl : j = m5 := by omega
          have hgej : ¬ (j : Int) < j := by omega
          rw [List.take_of_length_le (by have := H5.out.2.2.2.2.2.2; omega)] at hB5 hszj ⊢
          have hE : hd + Pe.sizes S = Pe.end_ xs := by rw [Pe.end_, H.out.2.2.2.2, HO.out.2.2.1, Pe.perm_sizes H5.out.2.1]
          have hTi : Pe.tiles hd S = Pe.tiles hd (Pe.riseS (Pe.secs xs)) := by rw [HO.out.2.2.1]; exact Pe.tiles_rise hd H5.out.2.1 H5.out.2.2.1 (fun x hx => (HO.out.2.2.2.1 x hx).1)
          have hla : Pe.laid xs = (Pe.tiles hd S && decide (Pe.end_ xs ≤ n)) := by unfold Pe.laid; rw [H.out.2.2.2.2, ← hTi, hl]
          rw [hE] at hszj ⊢
          obtain ⟨en, hen⟩ : ∃ en, Pe.end_ xs = en := ⟨_, rfl⟩
          rw [hen] at hszj hla ⊢
          obtain ⟨w7, hw7⟩ : ∃ w7, w7 = wr := ⟨_, rfl⟩
          subst hw7
          obtain ⟨hcg, _⟩ := hB5.facts
          have hcg0 : w7.cell? ⟨g, 0, none⟩ = some (.slice A n c) := hcg 0
          have hmu := must_any g (.slice A n c) (f && Pe.tiles hd S) (decide (en ≤ n)) w7 hB5 ⟨_, _, _, rfl⟩
          obtain ⟨dd, hdd⟩ : ∃ dd, decide (en ≤ n) = dd := ⟨_, rfl⟩
          have hfl : (f && Pe.tiles hd S && dd) = (f && Pe.laid xs) := by rw [← hdd, Bool.and_assoc, ← hla]
          rw [hdd, hfl] at hmu
          obtain ⟨fl, hfl2⟩ : ∃ fl, (f && Pe.laid xs) = fl := ⟨_, rfl⟩
          rw [hfl2] at hmu
          have HZ := Lib.hid (And.intro hg5 (And.intro hmu (And.intro hfl2 hen)))
          have hszl : w5.heap.size ≤ w7.heap.size := hg5.size
          clear hg5 hmu hB5 hcg hTi hE hla hen hfl hfl2
          go_wp2_with fail
          refine HZ.out.2.1.mono ?_
          rintro e w8 ⟨rfl, hS8⟩
          have H8 := Lib.hid hS8
          clear hS8
          go_wp2
          go_ret2
          have hg58 := HZ.out.1.trans H8.out.grown
          have hg38 := grown_on (grown_refl w3 (some g)) ⟨hg58.os.trans H5.out.2.2.2.2.1.os, hg58.tape.trans H5.out.2.2.2.2.1.tape, hg58.output.trans H5.out.2.2.2.2.1.output, Nat.le_trans hs35 hg58.size, fun k hk hne => (hg58.block k (by omega) hne).trans (H5.out.2.2.2.2.1.block k hk)⟩ (r := some g) (fun j e => .inr (by injection e with e; exact e.symm))
          refine ⟨Av, lm, cv, by rw [HZ.out.2.2.2]; rfl, ?_, ?_, grown_on HO.out.2.1.grown hg38 (fun j e => .inr (by injection e with e; exact e.symm))⟩
          · rw [HO.out.2.2.1]
            exact (own_grown HO.out.1 hg38 (by omega) (Nat.le_refl _)).mono (Nat.le_refl _) hg38.size
          · rw [HZ.out.2.2.1]
            exact H8.out.blk
end Go.Proofs.YtmpladnglfiejaaGreatDoor
end
