/- Joined of: PeRGet PeR1 PeR4 PeR3 PeR2. -/
import Derived.Test.YtmpladnglfiejaaGreatDoorPD
import Derived.Deep.RegionHeld3
import Derived.Test.YtmpladnglfiejaaGreatDoorPE
import Derived.Test.YtmpladnglfiejaaGreatDoorPF
section
/- The reference's numbers: Cut, Turned, GetBig, Get. -/
namespace Go.Proofs.YtmpladnglfiejaaGreatDoor
open Go.RowKit
set_option maxRecDepth 100000
set_option linter.unusedVariables false
set_option linter.unusedSimpArgs false
namespace Pe
/-- The number of bytes, the highest first. -/
def numB (l : List UInt8) : Nat := l.foldl (fun x b => x * 256 + b.toNat) 0
theorem numB_snoc (l : List UInt8) (b : UInt8) : numB (l ++ [b]) = numB l * 256 + b.toNat := by simp [numB]
theorem numB_rev : ∀ l : List UInt8, numB l.reverse = num l
  | [] => rfl
  | b :: r => by rw [List.reverse_cons, numB_snoc, numB_rev r, num]; omega
theorem numB_lt (l : List UInt8) : numB l < 256 ^ l.length := by
  have h := numB_rev l.reverse
  rw [List.reverse_reverse] at h
  rw [h]
  have := num_lt l.reverse
  rwa [List.length_reverse] at this
end Pe
theorem sizedR_any (k : Nat) (w : World) (hk : Pe.Size k) : Calls Tryz.prog 86 #[.int .i64 (k : Int)] w fun e w' => e = .returned (.bool true) ∧ w' = w := by
  rcases hk with rfl | rfl | rfl
  all_goals
    go_enter Tryz.func86, Tryz.ntmps86
    go_wp2
    go_ret
    exact ⟨rfl, rfl⟩
theorem cutR_any (A : Option Addr) (n c p k : Nat) (q y : Int) (xs : List UInt8) (w : World) (h : Rd w w.heap.size A n c xs) (hn : n ≤ 1099511627776) (hq : q = (p : Int)) (hy : y = (k : Int)) (hp : p ≤ 1099511627776) (hk : k ≤ 1099511627776) :
    Calls Tryz.prog 66 #[.slice A n c, .int .i64 q, .int .i64 y] w fun e w' => ∃ A' n' c', e = .returned (.tuple #[.slice A' n' c', .bool (Pe.inb xs p k)]) ∧ OwnB w' w.heap.size w'.heap.size (.slice A' n' c') (if Pe.inb xs p k then (xs.drop p).take k else []) ∧ Below w.heap.size w w' := by
  subst hq hy
  have hl := h.len
  have h0 : ¬ ((p : Int) < 0) := by omega
  have h1 : ¬ ((k : Int) < 0) := by omega
  by_cases hpk : p + k ≤ n
  · have e : Pe.inb xs p k = true := by unfold Pe.inb; simp; omega
    obtain ⟨A1, hr1, hrun, hrun2⟩ := run_cut h p (p + k) p ((p : Int) + k) rfl (by omega) (by omega) hpk
    rw [List.drop_take] at hr1
    have hcp := copy_any A1 (p + k - p) (c - p) _ w hr1 (by omega)
    have h2 : ¬ ((p : Int) > n) := by omega
    have h3 : ¬ ((k : Int) > (n : Int) - p) := by omega
    rw [e]
    rw [show p + k - p = k by omega] at hcp hrun hrun2
    have H := Lib.hid hcp
    clear hcp h hr1
    go_enter Tryz.func66, Tryz.ntmps66
    go_wp2_with fail
    refine H.out.mono ?_
    rintro e w1 ⟨A2, n2, c2, rfl, ho, hb⟩
    have H1 := Lib.hid (And.intro ho hb)
    clear ho hb
    go_wp2_with fail
    exact bodyPost_ret (v := .tuple #[.slice A2 n2 c2, .bool true]) (by simp [results, Tryz.results66, go_sem]) rfl ⟨A2, n2, c2, rfl, H1.out.1, H1.out.2⟩
  · have e : Pe.inb xs p k = false := by unfold Pe.inb; simp; omega
    rw [e]
    clear h
    by_cases h2 : (p : Int) > n
    · go_enter Tryz.func66, Tryz.ntmps66
      go_wp2_with fail
      exact bodyPost_ret (v := .tuple #[.slice none 0 0, .bool false]) (by simp [results, Tryz.results66, go_sem]) rfl ⟨none, 0, 0, rfl, OwnB.nil_, Below.refl _ _⟩
    · have h3 : (k : Int) > (n : Int) - p := by omega
      go_enter Tryz.func66, Tryz.ntmps66
      go_wp2_with fail
      exact bodyPost_ret (v := .tuple #[.slice none 0 0, .bool false]) (by simp [results, Tryz.results66, go_sem]) rfl ⟨none, 0, 0, rfl, OwnB.nil_, Below.refl _ _⟩
set_option maxHeartbeats 1000000 in
theorem turned_any (A : Option Addr) (n c : Nat) (xs : List UInt8) (w : World) (h : Rd w w.heap.size A n c xs) (hn : n ≤ 1099511627776) :
    Calls Tryz.prog 88 #[.slice A n c] w (RetOwn xs.reverse w) := by
  have hl := h.len
  have H := Lib.hid h
  clear h
  go_enter Tryz.func88, Tryz.ntmps88
  go_wp2_with fail
  go_loopw [3, 4] (fun v i wr => ∃ j : Nat, j ≤ n ∧ i = .int .i64 ((j : Int) - 1) ∧ OwnB wr w.heap.size wr.heap.size v (xs.drop j).reverse ∧ Below w.heap.size w wr) (fun _ i _ => (intOf i + 1).toNat)
  case atStart => exact ⟨n, Nat.le_refl _, rfl, by rw [List.drop_of_length_le (by omega)]; exact OwnB.nil_, Below.refl _ _⟩
  case round =>
    obtain ⟨j, hj, rfl, ho, hb⟩ := hrel
    by_cases h0 : j = 0
    · subst h0
      have hge : ¬ ((0 : Int) ≤ ((0 : Nat) : Int) - 1) := by omega
      have HO := Lib.hid (And.intro ho hb)
      clear ho hb
      go_wp2_with fail
      go_ret
      have h1 := HO.out.1
      rw [List.drop_zero] at h1
      exact retOwn h1 HO.out.2
    · obtain ⟨i, rfl⟩ : ∃ i, j = i + 1 := ⟨j - 1, by omega⟩
      have hge : (0 : Int) ≤ ((i + 1 : Nat) : Int) - 1 := by omega
      have hii : ((i + 1 : Nat) : Int) - 1 = (i : Int) := by omega
      obtain ⟨b, o, rfl, hbw, hc⟩ := H.out.at_ (by omega)
      have hx : xs[i]? = some (xs[i]'(by omega)) := List.getElem?_eq_getElem (by omega)
      obtain ⟨x, hx'⟩ : ∃ x, xs[i]'(by omega) = x := ⟨_, rfl⟩
      rw [hx'] at hx
      have q1 : wr.cell? ⟨b, o + i, none⟩ = some (.int .u8 (x.toNat : Int)) := (hb.cell (p := ⟨b, o + i, none⟩) hbw).trans (hc i x hx)
      have hsn : (xs.drop i).reverse = (xs.drop (i + 1)).reverse ++ [x] := by
        have e : xs.drop i = xs[i]'(by omega) :: xs.drop (i + 1) := List.drop_eq_getElem_cons (by omega)
        rw [e, List.reverse_cons, hx']
      have hlen : (xs.drop (i + 1)).reverse.length ≤ n := by rw [List.length_reverse, List.length_drop]; omega
      have hil : (i : Int) < n := by omega
      have HO := Lib.hid (And.intro ho (And.intro hb (And.intro hsn hlen)))
      clear ho hb hsn hlen hc hx hx'
      rw [hii] at *
      go_wp2_with
        (at_builtin
         refine wpList_app rfl (.tmp 12) (.tmp 17) rfl w.heap.size _ _ (xs.drop (i + 1)).reverse rfl (HO.out.1.alloc (Nat.le_refl _) _) (by have := HO.out.2.1.size; simp; omega) _ _ 1 1 [x] rfl (reads_block _ 5 [.int .u8 (x.toNat : Int)] _ rfl) (by have := HO.out.2.2.2; omega) ?_
         intro v2 w2 ho2 hg2 hat2 hb2
         have HA := Lib.hid (And.intro ho2 (((HO.out.2.1.alloc HO.out.2.1.size (.cells #[.int .u8 (x.toNat : Int)] 5))).trans hb2))
         clear ho2 hg2 hat2 hb2)
      go_roundw
      case rel => exact ⟨i, by omega, by rfl, by rw [HO.out.2.2.1]; exact HA.out.1, HA.out.2⟩
      case measure => simp [intOf]
set_option maxHeartbeats 1000000 in
theorem getBig_any (A : Option Addr) (n c : Nat) (xs : List UInt8) (w : World) (h : Rd w w.heap.size A n c xs) (hk : Pe.Size n) :
    Calls Tryz.prog 87 #[.slice A n c, .int .i64 0, .int .i64 (n : Int)] w fun e w' => e = .returned (.tuple #[.int .u64 (Pe.numB xs : Int), .int .i64 0]) ∧ Below w.heap.size w w' := by
  have hl := h.len
  have hn4 : n ≤ 4 := by rcases hk with rfl | rfl | rfl <;> omega
  have hc := cutR_any A n c 0 n 0 n xs w h (by omega) rfl rfl (by omega) (by omega)
  have e : Pe.inb xs 0 n = true := by unfold Pe.inb; simp; omega
  rw [e] at hc
  simp only [if_true, List.drop_zero] at hc
  rw [List.take_of_length_le (by omega)] at hc
  have hsz := fun W => sizedR_any n W hk
  have H := Lib.hid (And.intro hc hsz)
  clear h hc hsz e hk
  go_enter Tryz.func87, Tryz.ntmps87
  go_wp2_with fail
  refine H.out.1.mono ?_
  rintro e w1 ⟨A1, n1, c1, rfl, ho, hb⟩
  obtain ⟨_, _, _, e1, hr1⟩ := ho.rd
  injection e1 with e11 e12 e13
  subst e11 e12 e13
  have hn1 : n = n1 := by have := hr1.len; omega
  subst hn1
  have H1 := Lib.hid (And.intro hr1 hb)
  clear ho hr1 hb
  go_wp2_with fail
  refine (H.out.2 w1).mono ?_
  rintro e w2 ⟨rfl, rfl⟩
  go_wp2_with fail
  go_loopw [10, 11] (fun v i wr => ∃ j : Nat, j ≤ n ∧ i = .int .i64 (j : Int) ∧ v = .int .u64 (Pe.numB (xs.take j) : Int) ∧ wr = w2) (fun _ i _ => n - (intOf i).toNat)
  case atStart => exact ⟨0, Nat.zero_le _, rfl, rfl, rfl⟩
  case round =>
    obtain ⟨j, hj, rfl, rfl, rfl⟩ := hrel
    by_cases hlt : j < n
    · have hlt' : (j : Int) < n := by omega
      obtain ⟨b, o, rfl, hbw, hc⟩ := H1.out.1.at_ (by omega)
      have hx : xs[j]? = some (xs[j]'(by omega)) := List.getElem?_eq_getElem (by omega)
      obtain ⟨x, hx'⟩ : ∃ x, xs[j]'(by omega) = x := ⟨_, rfl⟩
      rw [hx'] at hx
      have q1 := hc j x hx
      have hsn : Pe.numB (xs.take (j + 1)) = Pe.numB (xs.take j) * 256 + x.toNat := by rw [take_snoc hx, Pe.numB_snoc]
      have hlt2 := Pe.numB_lt (xs.take j)
      have hl3 : (xs.take j).length ≤ 3 := by rw [List.length_take]; omega
      have hlt3 : Pe.numB (xs.take j) < 16777216 := Nat.lt_of_lt_of_le hlt2 (by have := Nat.pow_le_pow_right (n := 256) (by omega) hl3; omega)
      have hxl := x.toNat_lt
      obtain ⟨N, hN⟩ : ∃ N, Pe.numB (xs.take j) = N := ⟨_, rfl⟩
      rw [hN] at hsn hlt3 ⊢
      have i1 : IntKind.u64.wrap ((N : Int) * 256) = (N : Int) * 256 := by simp only [IntKind.wrap, IntKind.bits, IntKind.signed]; simp; omega
      have i2 : IntKind.u64.wrap ((x.toNat : Nat) : Int) = ((x.toNat : Nat) : Int) := by simp only [IntKind.wrap, IntKind.bits, IntKind.signed]; simp; omega
      have i3 : IntKind.u64.wrap ((N : Int) * 256 + ((x.toNat : Nat) : Int)) = (N : Int) * 256 + ((x.toNat : Nat) : Int) := by simp only [IntKind.wrap, IntKind.bits, IntKind.signed]; simp; omega
      have HS := Lib.hid hsn
      clear hsn hc hx hx' hlt2 hN
      go_wp2_with fail
      go_roundw
      case rel => exact ⟨j + 1, by omega, by go_num, by rw [HS.out]; go_num, by first | rfl | trivial⟩
      case measure => simp [intOf]; omega
    · obtain rfl : j = n := by omega
      have hge : ¬ (j : Int) < j := by omega
      rw [List.take_of_length_le (by omega)]
      go_wp2_with fail
      exact bodyPost_ret (v := .tuple #[.int .u64 (Pe.numB xs : Int), .int .i64 0]) (by simp [results, Tryz.results87, go_sem]) rfl ⟨rfl, H1.out.2⟩
/-- The reference's Get. -/
theorem getR_any (A : Option Addr) (n c p k : Nat) (q y : Int) (xs : List UInt8) (w : World) (h : Rd w w.heap.size A n c xs) (hn : n ≤ 1099511627776) (hq : q = (p : Int)) (hy : y = (k : Int)) (hp : p ≤ 1099511627776) (hk : Pe.Size k) :
    Calls Tryz.prog 65 #[.slice A n c, .int .i64 q, .int .i64 y] w fun e w' => e = .returned (.tuple #[.int .u64 (Pe.at_ xs p k : Int), .int .i64 (if Pe.inb xs p k then 0 else 1)]) ∧ Below w.heap.size w w' := by
  subst hq hy
  have hl := h.len
  have hk4 : k ≤ 4 := by rcases hk with rfl | rfl | rfl <;> omega
  have hc := cutR_any A n c p k p k xs w h hn rfl rfl hp (by omega)
  have hsz := fun W => sizedR_any k W hk
  have H := Lib.hid (And.intro hc (And.intro hsz hk))
  clear h hc hsz
  go_enter Tryz.func65, Tryz.ntmps65
  go_wp2_with fail
  refine H.out.1.mono ?_
  rintro e w1 ⟨A1, n1, c1, rfl, ho, hb⟩
  by_cases hin : p + k ≤ n
  · have hinb : Pe.inb xs p k = true := by unfold Pe.inb; simp; omega
    rw [hinb] at ho ⊢
    simp only [if_true] at ho
    obtain ⟨_, _, _, e1, hr1⟩ := ho.rd
    injection e1 with e11 e12 e13
    subst e11 e12 e13
    have hn1 : k = n1 := by have := hr1.len; rw [List.length_take, List.length_drop] at this; omega
    subst hn1
    have hat : Pe.at_ xs p k = Pe.num ((xs.drop p).take k) := by unfold Pe.at_; rw [if_pos (by omega)]
    obtain ⟨l, hll⟩ : ∃ l, (xs.drop p).take k = l := ⟨_, rfl⟩
    rw [hll] at hr1 hat
    have ht := turned_any A1 k c1 l w1 hr1 (by omega)
    have H1 := Lib.hid (And.intro ht (And.intro hb (And.intro hat hr1.len)))
    clear ho hr1 ht hb hat hll
    go_wp2_with fail
    refine (H.out.2.1 w1).mono ?_
    rintro e w2 ⟨rfl, rfl⟩
    go_wp2_with fail
    refine H1.out.1.mono ?_
    rintro e w2 ⟨A2, n2, c2, rfl, ho2, hb2⟩
    obtain ⟨_, _, _, e1, hr2⟩ := ho2.rd
    injection e1 with e11 e12 e13
    subst e11 e12 e13
    have hb02 := H1.out.2.1.trans (hb2.mono H1.out.2.1.size)
    have H2 := Lib.hid (And.intro hr2 hb02)
    have hll : l.length = k := H1.out.2.2.2
    have hn2 : k = n2 := by have := hr2.len; rw [List.length_reverse] at this; omega
    subst hn2
    have hg := getBig_any A2 k c2 l.reverse w2 hr2 H.out.2.2
    rw [Pe.numB_rev, ← H1.out.2.2.1] at hg
    have HG := Lib.hid hg
    clear ho2 hb2 hr2 hb02 hg hll
    go_wp2_with fail
    refine HG.out.mono ?_
    rintro e w3 ⟨rfl, hb3⟩
    have H3 := Lib.hid (H2.out.2.trans (hb3.mono H2.out.2.size))
    clear hb3
    go_wp2_with fail
    exact bodyPost_ret (v := .tuple #[.int .u64 (Pe.at_ xs p k : Int), .int .i64 0]) (by simp [results, Tryz.results65, go_sem]) rfl ⟨by first | rfl | (rw [hinb]; rfl), H3.out⟩
  · have hinb : Pe.inb xs p k = false := by unfold Pe.inb; simp; omega
    have e0 : Pe.at_ xs p k = 0 := by unfold Pe.at_; rw [if_neg (by omega)]
    rw [hinb]
    have H1 := Lib.hid hb
    clear ho hb
    go_wp2_with fail
    refine (H.out.2.1 w1).mono ?_
    rintro e w2 ⟨rfl, rfl⟩
    go_wp2_with fail
    all_goals exact bodyPost_ret (v := .tuple #[.int .u64 0, .int .i64 1]) (by simp [results, Tryz.results65, go_sem]) rfl ⟨by first | rfl | (rw [hinb]; rfl) | (rw [hinb, e0]; rfl), H1.out⟩
end Go.Proofs.YtmpladnglfiejaaGreatDoor
end

section
/- The reference's reading: number, numbers, begins. -/
namespace Go.Proofs.YtmpladnglfiejaaGreatDoor
open Go.RowKit
set_option maxRecDepth 100000
set_option linter.unusedVariables false
set_option linter.unusedSimpArgs false
theorem numberR_any (A : Option Addr) (n c p k : Nat) (q y : Int) (xs : List UInt8) (w : World) (h : Rd w w.heap.size A n c xs) (hn : n ≤ 1099511627776) (hq : q = (p : Int)) (hy : y = (k : Int)) (hp : p ≤ 1099511627776) (hk : Pe.Size k) :
    Calls Tryz.prog 41 #[.slice A n c, .int .i64 q, .int .i64 y] w fun e w' => e = .returned (.tuple #[.int .i64 (Pe.at_ xs p k : Int), .bool (Pe.inb xs p k)]) ∧ Below w.heap.size w w' := by
  subst hq hy
  have hk4 : k ≤ 4 := by rcases hk with rfl | rfl | rfl <;> omega
  have hg := getR_any A n c p k p k xs w h hn rfl rfl hp hk
  obtain ⟨b, hb⟩ : ∃ b, Pe.inb xs p k = b := ⟨_, rfl⟩
  obtain ⟨N, hN⟩ : ∃ N, Pe.at_ xs p k = N := ⟨_, rfl⟩
  have hNl : N < 4294967296 := by
    rw [← hN]
    exact Nat.lt_of_lt_of_le (Pe.at_lt xs p k) (by have := Nat.pow_le_pow_right (n := 256) (by omega) hk4; omega)
  rw [hb, hN] at hg
  rw [hb, hN]
  have hw : IntKind.i64.wrap (N : Int) = (N : Int) := by rw [IntKind.wrap_i64]; omega
  have H := Lib.hid hg
  clear hg h hk hb hN
  cases b
  · go_enter Tryz.func41, Tryz.ntmps41
    go_wp2_with fail
    refine H.out.mono ?_
    rintro e w1 ⟨rfl, hb1⟩
    have H1 := Lib.hid hb1
    clear hb1
    simp only [Bool.false_eq_true, if_false]
    go_wp2_with fail
    exact bodyPost_ret (v := .tuple #[.int .i64 (N : Int), .bool false]) (by simp [results, Tryz.results41, go_sem]) rfl ⟨rfl, H1.out⟩
  · go_enter Tryz.func41, Tryz.ntmps41
    go_wp2_with fail
    refine H.out.mono ?_
    rintro e w1 ⟨rfl, hb1⟩
    have H1 := Lib.hid hb1
    clear hb1
    simp only [if_true]
    go_wp2_with fail
    exact bodyPost_ret (v := .tuple #[.int .i64 (N : Int), .bool true]) (by simp [results, Tryz.results41, go_sem]) rfl ⟨rfl, H1.out⟩
def pairC (x : Nat × Nat) : List Value := [.int .i64 (x.1 : Int), .int .i64 (x.2 : Int)]
theorem pairC_get : ∀ (l : List (Nat × Nat)) (k : Nat) (x : Nat × Nat), l[k]? = some x → (l.flatMap pairC)[k * 2]? = some (.int .i64 (x.1 : Int)) ∧ (l.flatMap pairC)[k * 2 + 1]? = some (.int .i64 (x.2 : Int))
  | [], _, _, h => by cases h
  | y :: l, 0, x, h => by
    simp only [List.getElem?_cons_zero, Option.some.injEq] at h
    subst h
    exact ⟨rfl, rfl⟩
  | y :: l, k + 1, x, h => by
    simp only [List.getElem?_cons_succ] at h
    have ih := pairC_get l k x h
    rw [List.flatMap_cons, show (k + 1) * 2 = k * 2 + 1 + 1 by omega]
    exact ih
set_option maxHeartbeats 2000000 in
theorem numbersR_any (A : Option Addr) (n c g m : Nat) (xs : List UInt8) (ps : List (Nat × Nat)) (w : World) (h : Rd w w.heap.size A n c xs) (hn : n ≤ 1099511627776) (hB : Blk w g 39 (ps.flatMap pairC).toArray) (hm : ps.length = m) (hm10 : m ≤ 100) (hps : ∀ p ∈ ps, p.1 ≤ 1099511627776 ∧ Pe.Size p.2) :
    Calls Tryz.prog 43 #[.slice A n c, .slice (some ⟨g, 0, none⟩) m m] w fun e w' => Below w.heap.size w w' ∧ ∃ v, e = .returned (.tuple #[v, .bool (ps.all fun p => Pe.inb xs p.1 p.2)]) ∧ ((ps.all fun p => Pe.inb xs p.1 p.2) = true → OwnC 3 1 w' w.heap.size w'.heap.size v m ((ps.map fun p => Pe.at_ xs p.1 p.2).map natV)) := by
  have hgl := hB.lt
  have H := Lib.hid (And.intro h (And.intro hB (And.intro hm hps)))
  clear h hB hm hps
  go_enter Tryz.func43, Tryz.ntmps43
  go_wp2_with fail
  go_loopw [6, 7, 8, 9] (fun v i _ _ wr => ∃ j : Nat, j ≤ m ∧ i = .int .i64 (j : Int) ∧ OwnC 3 1 wr w.heap.size wr.heap.size v j (((ps.take j).map fun p => Pe.at_ xs p.1 p.2).map natV) ∧ ((ps.take j).all fun p => Pe.inb xs p.1 p.2) = true ∧ Below w.heap.size w wr) (fun _ i _ _ _ => m - (intOf i).toNat)
  case atStart => exact ⟨0, Nat.zero_le _, rfl, OwnC.nil_, rfl, Below.refl _ _⟩
  case round =>
    obtain ⟨j, hj, rfl, ho, hall, hb⟩ := hrel
    by_cases hlt : j < m
    · have hlt' : (j : Int) < m := by omega
      obtain ⟨⟨p, k⟩, hpk⟩ : ∃ x, ps[j]? = some x := ⟨_, List.getElem?_eq_getElem (by have := H.out.2.2.1; omega)⟩
      obtain ⟨g1, g2⟩ := pairC_get ps j _ hpk
      obtain ⟨hp40, hks⟩ := H.out.2.2.2 _ (List.mem_of_getElem? hpk)
      have hcell : ∀ W, Below w.heap.size w W → W.cell? ⟨g, j * 2, none⟩ = some (.int .i64 (p : Int)) ∧ W.cell? ⟨g, j * 2 + 1, none⟩ = some (.int .i64 (k : Int)) := fun W hW => by
        have h1 := H.out.2.1.below hW hgl
        exact ⟨by rw [h1.cell]; simpa using g1, by rw [h1.cell]; simpa using g2⟩
      have hnum : ∀ W, Below w.heap.size w W → Calls Tryz.prog 41 #[.slice A n c, .int .i64 (p : Int), .int .i64 (k : Int)] W fun e w' => e = .returned (.tuple #[.int .i64 (Pe.at_ xs p k : Int), .bool (Pe.inb xs p k)]) ∧ Below W.heap.size W w' := fun W hW =>
        numberR_any A n c p k p k xs W ((H.out.1.below hW).more hW.size) hn rfl rfl hp40 hks
      obtain ⟨q1, q2⟩ := hcell wr hb
      obtain ⟨bi, hbi⟩ : ∃ b, Pe.inb xs p k = b := ⟨_, rfl⟩
      obtain ⟨N, hN⟩ : ∃ N, Pe.at_ xs p k = N := ⟨_, rfl⟩
      rw [hbi, hN] at hnum
      have HI := Lib.hid (And.intro ho (And.intro hall (And.intro hb (And.intro hcell (And.intro hnum (And.intro hpk (And.intro hbi hN)))))))
      clear ho hall hb hcell hnum hpk hbi hN g1 g2 hks
      go_upto_region 5 with fail
      go_region_held3 (fun w' => w'.cell? ⟨g, j * 2, none⟩ = some (.int .i64 (p : Int)) ∧ w'.cell? ⟨g, j * 2 + 1, none⟩ = some (.int .i64 (k : Int))) (go_keep)
        (first
          | (go_at_call 41; ((with_reducible refine (HI.out.2.2.2.2.1 _ (by exact HI.out.2.2.1.drew)).mono ?_); rintro e wa ⟨rfl, hba⟩); have hwa : Below w.heap.size w wa := HI.out.2.2.1.drew.trans (hba.mono HI.out.2.2.1.size); have q1a := (HI.out.2.2.2.1 wa hwa).1; have q2a := (HI.out.2.2.2.1 wa hwa).2; have hwra : Below wr.heap.size wr wa := (Below.refl wr.heap.size wr).drew.trans hba; have HA := Lib.hid (And.intro hwa hwra); clear hba hwa hwra))
      cases bi
      · have hno : (ps.all fun p => Pe.inb xs p.1 p.2) = false := by
          rw [Bool.eq_false_iff]
          intro h1
          have h2 := List.all_eq_true.1 h1 _ (List.mem_of_getElem? HI.out.2.2.2.2.2.1)
          rw [HI.out.2.2.2.2.2.2.1] at h2
          cases h2
        have HNO := Lib.hid hno
        clear hno
        go_wp2_with fail
        exact bodyPost_ret (v := .tuple #[.slice none 0 0, .bool false]) (by simp [results, Tryz.results43, go_sem]) rfl ⟨HA.out.1, _, by rw [HNO.out], fun h1 => by rw [HNO.out] at h1; cases h1⟩
      · have hown := (HI.out.1.below HA.out.2 (Nat.le_refl _)).mono (Nat.le_refl _) HA.out.2.size
        have hx1 : ((ps.take (j + 1)).map fun p => Pe.at_ xs p.1 p.2).map natV = (((ps.take j).map fun p => Pe.at_ xs p.1 p.2).map natV) ++ [.int .i64 (N : Int)] := by
          rw [take_snoc HI.out.2.2.2.2.2.1, List.map_append, List.map_append, ← HI.out.2.2.2.2.2.2.2]; rfl
        have hx2 : ((ps.take (j + 1)).all fun p => Pe.inb xs p.1 p.2) = true := by
          rw [take_snoc HI.out.2.2.2.2.2.1, List.all_append, HI.out.2.1]
          simp [HI.out.2.2.2.2.2.2.1]
        have HO := Lib.hid (And.intro hown (And.intro hx1 hx2))
        have hsza := HA.out.1.size
        clear hown hx1 hx2
        go_wp2_with
          (at_builtin
           refine wpList_appC rfl (.tmp 33) (.tmp 35) 43 rfl 3 _ 1 8 int_info Tryz.underlying43 rfl (by omega) w.heap.size wa.heap.size _ j _ rfl (HO.out.1.alloc (Nat.le_refl _) _) (by simp; omega) _ _ 1 1 [.int .i64 (N : Int)] rfl (Reads.one wa 3 _) (by simp [Value.oneCell']) (by omega) (by omega) ?_
           intro v2 w2 ho2 hg2 hat2 hb2
           have HB := Lib.hid (And.intro ho2 ((HA.out.1.alloc HA.out.1.size (.cells #[.int .i64 (N : Int)] 3)).trans hb2))
           clear ho2 hg2 hat2 hb2)
        go_roundw
        case rel => exact ⟨j + 1, by omega, by go_num, by rw [HO.out.2.1]; exact HB.out.1, HO.out.2.2, HB.out.2⟩
        case measure => simp [intOf]; omega
    · obtain rfl : j = m := by omega
      have hge : ¬ (j : Int) < j := by omega
      have hall' : (ps.all fun p => Pe.inb xs p.1 p.2) = true := by rw [List.take_of_length_le (by have := H.out.2.2.1; omega)] at hall; exact hall
      rw [List.take_of_length_le (by have := H.out.2.2.1; omega)] at ho
      have HQ := Lib.hid (And.intro ho (And.intro hb hall'))
      clear ho hb hall hall'
      go_wp2_with fail
      exact bodyPost_ret (v := .tuple #[u6, .bool true]) (by simp [results, Tryz.results43, go_sem]) rfl ⟨HQ.out.2.1, _, by rw [HQ.out.2.2], fun _ => by have h1 := HQ.out.1; rw [List.map_map] at h1; exact h1⟩
end Go.Proofs.YtmpladnglfiejaaGreatDoor
end

section
/- The reference's reading: sections by where they lie. -/
namespace Go.Proofs.YtmpladnglfiejaaGreatDoor
open Go.RowKit
set_option maxRecDepth 100000
set_option linter.unusedVariables false
set_option linter.unusedSimpArgs false
theorem reads_twoR (w : World) (t : TypeId) (a b : Value) (q : Nat) (hq : q = w.heap.size) : Reads (w.alloc (.cells #[a, b] t)) (q + 1) 2 (some ⟨q, 0, none⟩) 1 [a, b] := by
  subst hq
  refine ⟨rfl, fun _ => ⟨_, rfl, by simp, fun j x hx => ?_⟩⟩
  rw [Addr.add_lit]
  have := (Blk.new w t #[a, b]).cell (0 + j)
  rw [this, Nat.zero_add]
  simpa using hx
theorem secC_set : ∀ (l : List (Nat × Nat)) (k : Nat) (x : Nat × Nat), ((l.flatMap secC).set (k * 2) (.int .u32 (x.1 : Int))).set (k * 2 + 1) (.int .u32 (x.2 : Int)) = (l.set k x).flatMap secC
  | [], k, x => by simp
  | y :: l, 0, x => by simp [secC]
  | y :: l, k + 1, x => by
    have ih := secC_set l k x
    rw [List.flatMap_cons, show (k + 1) * 2 = k * 2 + 1 + 1 by omega, List.set_cons_succ, List.flatMap_cons, ← ih]
    simp [secC]
theorem OwnC.stored2 {w : World} {lo hi g n cap : Nat} {l : List (Nat × Nat)} (h : OwnC 59 2 w lo hi (.slice (some ⟨g, 0, none⟩) n cap) n (l.flatMap secC)) (k : Nat) (x : Nat × Nat) :
    OwnC 59 2 ((w.setCell ⟨g, k * 2, none⟩ (.int .u32 (x.1 : Int))).setCell ⟨g, k * 2 + 1, none⟩ (.int .u32 (x.2 : Int))) lo hi (.slice (some ⟨g, 0, none⟩) n cap) n ((l.set k x).flatMap secC) := by
  have h1 := (h.1.stored (k * 2) (.int .u32 (x.1 : Int))).1
  have h2 := (h1.stored (k * 2 + 1) (.int .u32 (x.2 : Int))).1
  rw [secC_set] at h2
  exact ⟨h2, h.2⟩
namespace Pe
theorem ins_perm {S m : List (Nat × Nat)} {x : Nat × Nat} (k : Nat) (h : S.Perm m) : (S.take k ++ x :: S.drop k).Perm (m ++ [x]) := by
  refine List.perm_middle.trans ?_
  rw [List.take_append_drop]
  exact (h.cons x).trans (List.perm_append_singleton x m).symm
theorem ins_rise {S : List (Nat × Nat)} {x : Nat × Nat} {k : Nat} (h : Rising S) (hk : k ≤ S.length) (h1 : ∀ y ∈ S.drop k, x.1 < y.1) (h2 : ∀ y, 0 < k → S[k - 1]? = some y → y.1 ≤ x.1) : Rising (S.take k ++ x :: S.drop k) := by
  have hS : Rising (S.take k ++ S.drop k) := by rw [List.take_append_drop]; exact h
  unfold Rising at hS ⊢
  obtain ⟨p1, p2, p3⟩ := List.pairwise_append.1 hS
  refine List.pairwise_append.2 ⟨p1, List.pairwise_cons.2 ⟨fun y hy => Nat.le_of_lt (h1 y hy), p2⟩, fun a ha b hb => ?_⟩
  rcases List.mem_cons.1 hb with rfl | hb
  · rcases Nat.eq_zero_or_pos k with h0 | h0
    · subst h0; simp at ha
    · obtain ⟨y, hy⟩ : ∃ y, S[k - 1]? = some y := ⟨_, List.getElem?_eq_getElem (by omega)⟩
      have hyx := h2 y h0 hy
      obtain ⟨j, hj⟩ := List.getElem?_of_mem ha
      rw [List.getElem?_take] at hj
      split at hj
      · rename_i hjk
        rcases Nat.lt_or_ge j (k - 1) with h3 | h3
        · obtain ⟨g1, g2⟩ := List.getElem?_eq_some_iff.1 hj
          obtain ⟨g3, g4⟩ := List.getElem?_eq_some_iff.1 hy
          have := List.pairwise_iff_getElem.1 h j (k - 1) g1 g3 h3
          rw [g2, g4] at this
          omega
        · have : j = k - 1 := by omega
          subst this
          rw [hy] at hj
          injection hj with hj
          subst hj
          exact hyx
      · cases hj
  · exact p3 a ha b hb
theorem ins_at {S : List (Nat × Nat)} {x : Nat × Nat} {k : Nat} (hk : k ≤ S.length) : (S.take k ++ x :: S.drop k)[k]? = some x := by
  rw [List.getElem?_append_right (by rw [List.length_take]; omega), List.length_take, show k - min k S.length = 0 by omega]
  rfl
theorem ins_ahead {S : List (Nat × Nat)} {x y : Nat × Nat} {k : Nat} (h0 : 0 < k) (hk : k ≤ S.length) (hy : S[k - 1]? = some y) : (S.take k ++ x :: S.drop k)[k - 1]? = some y := by
  rw [List.getElem?_append_left (by rw [List.length_take]; omega), List.getElem?_take, if_pos (by omega)]
  exact hy
theorem ins_step {S : List (Nat × Nat)} {x y : Nat × Nat} {k : Nat} (h0 : 0 < k) (hk : k ≤ S.length) (hy : S[k - 1]? = some y) : (((S.take k ++ x :: S.drop k).set k y).set (k - 1) x) = S.take (k - 1) ++ x :: S.drop (k - 1) := by
  obtain ⟨j, rfl⟩ : ∃ j, k = j + 1 := ⟨k - 1, by omega⟩
  have hj : j + 1 - 1 = j := by omega
  rw [hj] at hy ⊢
  have e1 : S.take (j + 1) = S.take j ++ [y] := take_snoc hy
  obtain ⟨g1, g2⟩ := List.getElem?_eq_some_iff.1 hy
  have e2 : S.drop j = y :: S.drop (j + 1) := by rw [List.drop_eq_getElem_cons g1, g2]
  have hl : (S.take j).length = j := by rw [List.length_take]; omega
  rw [e1, e2, List.append_assoc, List.set_append_right _ _ (by omega), hl, show j + 1 - j = 1 by omega]
  rw [List.set_append_right _ _ (by omega), hl, Nat.sub_self]
  rfl
end Pe
set_option maxHeartbeats 4000000 in
theorem riseR_any (A : Option Addr) (n c : Nat) (l : List (Nat × Nat)) (w : World) (h : RdS w w.heap.size A n c l) (hn : n ≤ 1000) :
    Calls Tryz.prog 25 #[.slice A n c] w fun e w' => Below w.heap.size w w' ∧ ∃ v : Value, e = .returned v ∧ ∃ S : List (Nat × Nat), S.Perm l ∧ Pe.Rising S ∧ OwnC 59 2 w' w.heap.size w'.heap.size v n (S.flatMap secC) := by
  have hl := h.len
  have H := Lib.hid h
  clear h
  go_enter Tryz.func25, Tryz.ntmps25
  go_wp2_with fail
  go_loopw [3, 4, 5] (fun v i _ wr => ∃ (j : Nat) (S : List (Nat × Nat)), j ≤ n ∧ i = .int .i64 (j : Int) ∧ S.Perm (l.take j) ∧ Pe.Rising S ∧ OwnC 59 2 wr w.heap.size wr.heap.size v j (S.flatMap secC) ∧ Below w.heap.size w wr) (fun _ i _ _ => n - (intOf i).toNat)
  case atStart => exact ⟨0, [], Nat.zero_le _, rfl, by simp, List.Pairwise.nil, OwnC.nil_, Below.refl _ _⟩
  case round =>
    obtain ⟨j, S, hj, rfl, hp, hr, ho, hb⟩ := hrel
    by_cases hlt : j < n
    · have hlt' : (j : Int) < n := by omega
      obtain ⟨b, o, ⟨x1, x2⟩, rfl, hbB, hx, q1, q2⟩ := (H.out.below hb).get hlt
      dsimp only at q1 q2
      have hSl : S.length = j := by have := hp.length_eq; rw [List.length_take] at this; omega
      have HI := Lib.hid (And.intro hp (And.intro hr (And.intro ho (And.intro hb (And.intro hx hSl)))))
      have hsz := hb.size
      clear hp hr ho hb hx hSl
      go_upto_region 6 with (first
        | (at_builtin
           refine wpList_appC rfl (.tmp 12) (.tmp 17) 27 rfl 59 _ 2 8 sec_info Tryz.underlying27 rfl (by omega) w.heap.size wr.heap.size _ j (S.flatMap secC) rfl (HI.out.2.2.1.alloc (Nat.le_refl _) _) (by simp; omega) _ _ 1 1 [.int .u32 (x1 : Int), .int .u32 (x2 : Int)] rfl (reads_twoR _ _ _ _ _ (by simp)) (by simp [Value.oneCell']) (by omega) (by omega) ?_
           intro v2 w2 ho2 hg2 hat2 hb2
           have HA := Lib.hid (And.intro ho2 ((HI.out.2.2.2.1.alloc hsz (.cells #[.int .u32 (x1 : Int), .int .u32 (x2 : Int)] 59)).trans hb2))
           clear ho2 hg2 hat2 hb2)
        | fail)
      have hO2 : OwnC 59 2 w2 w.heap.size w2.heap.size v2 (j + 1) ((S.take j ++ (x1, x2) :: S.drop j).flatMap secC) := by
        have h1 := HA.out.1
        rw [List.take_of_length_le (by rw [HI.out.2.2.2.2.2]; exact Nat.le_refl _), List.drop_of_length_le (by rw [HI.out.2.2.2.2.2]; exact Nat.le_refl _), List.flatMap_append]
        simpa [secC] using h1
      obtain ⟨g, cap, ev, _, _⟩ := hO2.1.form (by omega)
      subst ev
      have hg := hO2.1.lt g rfl
      have HB := Lib.hid hO2
      clear hO2
      go_wp2_with fail
      go_loopw [5] (fun i wq => ∃ k : Nat, k ≤ j ∧ i = .int .i64 (k : Int) ∧ (∀ y ∈ S.drop k, x1 < y.1) ∧ OwnC 59 2 wq w.heap.size w2.heap.size (.slice (some ⟨g, 0, none⟩) (j + 1) cap) (j + 1) ((S.take k ++ (x1, x2) :: S.drop k).flatMap secC) ∧ w2.grownBy wq (some g)) (fun i _ => (intOf i).toNat)
      case atStart => exact ⟨j, Nat.le_refl _, by go_num, (fun y hy => by rw [List.drop_of_length_le (by rw [HI.out.2.2.2.2.2]; exact Nat.le_refl _)] at hy; cases hy), HB.out, grown_refl _ _⟩
      case round =>
        obtain ⟨k, hk, rfl, hlow, hO, hgr⟩ := hrel
        have hsq := hgr.size
        have hbq : Below w.heap.size w wr := HA.out.2.grown hgr HA.out.2.size (fun k e => by injection e with e; omega)
        obtain ⟨b', o', ⟨y1, y2⟩, e, hbB', hx', t1, t2⟩ := (H.out.below hbq).get hlt
        have e3 : b = b' ∧ o = o' := by
          injection e with e
          injection e with e1 e2
          exact ⟨e1, e2⟩
        obtain ⟨rfl, rfl⟩ := e3
        have e4 : (x1, x2) = (y1, y2) := Option.some.inj (HI.out.2.2.2.2.1.symm.trans hx')
        injection e4 with e5 e6
        subst e5 e6
        dsimp only at t1 t2
        have hSl := HI.out.2.2.2.2.2
        by_cases h0 : k = 0
        · subst h0
          have hmem := hlow
          have HQ := Lib.hid (And.intro hlow (And.intro hO (And.intro hgr hbq)))
          clear hlow hO hgr hbq hmem
          go_upto_region 7 with fail
          go_quiet (fail)
          go_wp2_with fail
          go_roundw
          case rel => exact ⟨j + 1, _, by omega, by go_num, (by rw [take_snoc HI.out.2.2.2.2.1]; exact Pe.ins_perm 0 HI.out.1), Pe.ins_rise HI.out.2.1 (by omega) HQ.out.1 (fun y h1 => absurd h1 (by omega)), (HQ.out.2.1.keep fun _ _ _ => rfl).mono (Nat.le_refl _) (by simp; omega), below_drewN HQ.out.2.2.2 _⟩
          case measure => simp [intOf]; omega
        · obtain ⟨⟨z1, z2⟩, hz⟩ : ∃ y, S[k - 1]? = some y := ⟨_, List.getElem?_eq_getElem (by omega)⟩
          obtain ⟨kk, rfl⟩ : ∃ kk, k = kk + 1 := ⟨k - 1, by omega⟩
          rw [Nat.add_sub_cancel] at hz
          have hk0 : (0 : Int) < (kk : Int) + 1 := by omega
          have hk0d : decide ((0 : Int) < (kk : Int) + 1) = true := decide_eq_true hk0
          have hki : (kk : Int) + 1 - 1 = (kk : Int) := by omega
          have hzk := Pe.ins_ahead (S := S) (x := (x1, x2)) (y := (z1, z2)) (k := kk + 1) (by omega) (by omega) hz
          rw [Nat.add_sub_cancel] at hzk
          have hxk := Pe.ins_at (S := S) (x := (x1, x2)) (k := kk + 1) (by omega)
          obtain ⟨s0, s1⟩ := secC_get _ kk _ hzk
          obtain ⟨r0, r1⟩ := secC_get _ (kk + 1) _ hxk
          have fl : ((S.take (kk + 1) ++ (x1, x2) :: S.drop (kk + 1)).flatMap secC).length = (j + 1) * 2 := hO.1.1
          have hcell : ∀ (W : World) (hO' : OwnC 59 2 W w.heap.size w2.heap.size (.slice (some ⟨g, 0, none⟩) (j + 1) cap) (j + 1) ((S.take (kk + 1) ++ (x1, x2) :: S.drop (kk + 1)).flatMap secC)), W.cell? ⟨g, kk * 2, none⟩ = some (.int .u32 (z1 : Int)) ∧ W.cell? ⟨g, kk * 2 + 1, none⟩ = some (.int .u32 (z2 : Int)) ∧ W.cell? ⟨g, (kk + 1) * 2, none⟩ = some (.int .u32 (x1 : Int)) ∧ W.cell? ⟨g, (kk + 1) * 2 + 1, none⟩ = some (.int .u32 (x2 : Int)) := fun W hO' =>
            ⟨(hO'.1.cellAt _ (by omega)).trans s0, (hO'.1.cellAt _ (by omega)).trans s1, (hO'.1.cellAt _ (by omega)).trans r0, (hO'.1.cellAt _ (by omega)).trans r1⟩
          obtain ⟨c0, c1, c2, c3⟩ := hcell wr hO
          have HQ := Lib.hid (And.intro hlow (And.intro hO (And.intro hgr (And.intro hbq (And.intro hz hcell)))))
          clear hlow hO hgr hbq hz hcell hzk hxk s0 s1 r0 r1 fl
          by_cases hgt : x1 < z1
          · have hgt' : (x1 : Int) < z1 := by omega
            have hgd : decide ((x1 : Int) < (z1 : Int)) = true := by simp; omega
            go_upto_region 7 with fail
            go_quiet (fail)
            obtain ⟨wd, hwd⟩ : ∃ x, wr.drewN nq = x := ⟨_, rfl⟩
            have hOd : OwnC 59 2 wd w.heap.size w2.heap.size (.slice (some ⟨g, 0, none⟩) (j + 1) cap) (j + 1) ((S.take (kk + 1) ++ (x1, x2) :: S.drop (kk + 1)).flatMap secC) := by rw [← hwd]; exact HQ.out.2.1.keep fun _ _ _ => rfl
            have hgd' : w2.grownBy wd (some g) := by rw [← hwd]; have hgr := HQ.out.2.2.1; exact ⟨hgr.os, hgr.tape, hgr.output, hgr.size, hgr.block⟩
            rw [hwd]
            clear hwd c0 c1 c2 c3 hgd hk0d
            obtain ⟨c0, c1, c2, c3⟩ := HQ.out.2.2.2.2.2 wd hOd
            have f0 := hOd.1.frozenAt ((kk + 1) * 2)
            have f1 := hOd.1.frozenAt ((kk + 1) * 2 + 1)
            obtain ⟨W1, hW1⟩ : ∃ W, (wd.setCell ⟨g, (kk + 1) * 2, none⟩ (.int .u32 (z1 : Int))).setCell ⟨g, (kk + 1) * 2 + 1, none⟩ (.int .u32 (z2 : Int)) = W := ⟨_, rfl⟩
            have hO1 : OwnC 59 2 W1 w.heap.size w2.heap.size (.slice (some ⟨g, 0, none⟩) (j + 1) cap) (j + 1) (((S.take (kk + 1) ++ (x1, x2) :: S.drop (kk + 1)).set (kk + 1) (z1, z2)).flatMap secC) := by rw [← hW1]; exact hOd.stored2 (kk + 1) (z1, z2)
            have hg1 : w2.grownBy W1 (some g) := by rw [← hW1]; exact grownBy_store (grownBy_store hgd' _ _) _ _
            have hb1 : Below w.heap.size w W1 := HA.out.2.grown hg1 HA.out.2.size (fun k e => by injection e with e; omega)
            have t1' : W1.cell? ⟨b, o + j * 2, none⟩ = some (.int .u32 (x1 : Int)) := (hb1.cell (p := ⟨b, o + j * 2, none⟩) hbB).trans ((HQ.out.2.2.2.1.cell (p := ⟨b, o + j * 2, none⟩) hbB).symm.trans t1)
            have t2' : W1.cell? ⟨b, o + j * 2 + 1, none⟩ = some (.int .u32 (x2 : Int)) := (hb1.cell (p := ⟨b, o + j * 2 + 1, none⟩) hbB).trans ((HQ.out.2.2.2.1.cell (p := ⟨b, o + j * 2 + 1, none⟩) hbB).symm.trans t2)
            have HW := Lib.hid (And.intro hO1 (And.intro hg1 hb1))
            clear hO1 hg1 hb1 hOd hgd' t1 t2
            go_upto_region 10 with fail
            clear hW1 c0 c1 c2 c3 f0 f1
            have hlen1 : (((S.take (kk + 1) ++ (x1, x2) :: S.drop (kk + 1)).set (kk + 1) (z1, z2)).flatMap secC).length = (j + 1) * 2 := HW.out.1.1.1
            obtain ⟨u0, hu0⟩ : ∃ u, W1.cell? ⟨g, kk * 2, none⟩ = some u := ⟨_, (HW.out.1.1.cellAt _ (by omega)).trans (List.getElem?_eq_getElem (by omega))⟩
            obtain ⟨u1, hu1⟩ : ∃ u, W1.cell? ⟨g, kk * 2 + 1, none⟩ = some u := ⟨_, (HW.out.1.1.cellAt _ (by omega)).trans (List.getElem?_eq_getElem (by omega))⟩
            have f0 := HW.out.1.1.frozenAt (kk * 2)
            have f1 := HW.out.1.1.frozenAt (kk * 2 + 1)
            have hO2 := HW.out.1.stored2 kk (x1, x2)
            have hst := Pe.ins_step (S := S) (x := (x1, x2)) (y := (z1, z2)) (k := kk + 1) (by omega) (by omega) (by rw [Nat.add_sub_cancel]; exact HQ.out.2.2.2.2.1)
            rw [Nat.add_sub_cancel] at hst
            rw [hst] at hO2
            have hlow' : ∀ y ∈ S.drop kk, x1 < y.1 := fun y hy => by
              obtain ⟨e1, e2⟩ := List.getElem?_eq_some_iff.1 HQ.out.2.2.2.2.1
              rw [List.drop_eq_getElem_cons e1, e2] at hy
              rcases List.mem_cons.1 hy with rfl | hy
              · exact hgt
              · exact HQ.out.1 y hy
            have HV := Lib.hid (And.intro hO2 (And.intro hlow' (grownBy_store (grownBy_store HW.out.2.1 (kk * 2) (.int .u32 (x1 : Int))) (kk * 2 + 1) (.int .u32 (x2 : Int)))))
            clear hlen1 hO2 hst hlow'
            go_wp2_with fail
            go_roundw
            case rel => exact ⟨kk, by omega, by go_num, HV.out.2.1, HV.out.1, HV.out.2.2⟩
            case measure => simp [intOf]
          · have hgt' : ¬ ((x1 : Int) < z1) := by omega
            have hgd : decide ((x1 : Int) < (z1 : Int)) = false := by simp; omega
            go_upto_region 7 with fail
            go_quiet (fail)
            go_wp2_with fail
            go_roundw
            case rel => exact ⟨j + 1, _, by omega, by go_num, (by rw [take_snoc HI.out.2.2.2.2.1]; exact Pe.ins_perm (kk + 1) HI.out.1), Pe.ins_rise HI.out.2.1 (by omega) HQ.out.1 (fun y _ h1 => by rw [Nat.add_sub_cancel, HQ.out.2.2.2.2.1] at h1; injection h1 with h1; rw [← h1]; dsimp only; omega), (HQ.out.2.1.keep fun _ _ _ => rfl).mono (Nat.le_refl _) (by simp; omega), below_drewN HQ.out.2.2.2.1 _⟩
            case measure => simp [intOf]; omega
    · obtain rfl : j = n := by omega
      have hge : ¬ (j : Int) < j := by omega
      rw [List.take_of_length_le (by omega)] at hp
      obtain ⟨Av, cv, rfl, _⟩ := ho.shape
      have HQ := Lib.hid (And.intro hp (And.intro hr (And.intro ho hb)))
      clear hp hr ho hb
      go_wp2_with fail
      exact bodyPost_ret (v := .slice Av j cv) (by simp [results, Tryz.results25, go_sem]) rfl ⟨HQ.out.2.2.2, _, rfl, S, HQ.out.1, HQ.out.2.1, HQ.out.2.2.1⟩
end Go.Proofs.YtmpladnglfiejaaGreatDoor
end

section
/- The reference's reading: the rows of a certificate table. -/
namespace Go.Proofs.YtmpladnglfiejaaGreatDoor
open Go.RowKit
set_option maxRecDepth 100000
set_option linter.unusedVariables false
set_option linter.unusedSimpArgs false
section
variable {w w' : World} {lo hi : Nat} {v : Value} {xs : List UInt8} {l : List (Value × List UInt8)}
theorem wpList_xs2 {ops : Array Oper} {rest : List Oper} {o : Oper} {a : Act} {Q : Exit → Act → World → Prop} (hgd : o.guard = none) (s x : Operand)
    (ho : o.op = .call { callee := .builtin .append, args := #[s, x], argTypes := #[28, 28] })
    (lo : Nat) (v : Value) (l : List (Value × List UInt8)) (hs : a.eval s = v) (hown : XS w lo v l) (hlo : lo ≤ w.heap.size)
    (g : Nat) (v1 : Value) (x1 : List UInt8) (hx : a.eval x = .slice (some ⟨g, 0, none⟩) 1 1) (hg : w.cell? ⟨g, 0, none⟩ = some v1) (hgl : g < w.heap.size) (h1 : RdT w v1 x1) (hlen : l.length ≤ 2000000)
    (h : ∀ v' w', XS w' lo v' (l ++ [(v1, x1)]) → Below lo w w' → wpList Tryz.prog ops Q rest (a.put o.dst v') w') :
    wpList Tryz.prog ops Q (o :: rest) a w := by
  have hone : v1.oneCell' = true := by obtain ⟨A, n, c, rfl, _⟩ := h1; rfl
  refine wpList_appC hgd s x 28 ho 22 _ 1 24 bs_info2 Tryz.underlying28 rfl (by omega) lo w.heap.size v l.length (l.map (·.1)) hs hown.1 hlo (g + 1) _ 1 1 [v1] hx ⟨rfl, fun _ => ⟨_, rfl, by simp, fun j u hu => ?_⟩⟩ (by simpa using hone) (by omega) (by omega) ?_
  · rcases j with _ | j
    · simp only [List.getElem?_cons_zero, Option.some.injEq] at hu; subst hu; exact hg
    · simp at hu
  intro v' w' h1' h2 h3 h4
  have hkeep : ∀ (g : Nat) (cs : Array Value) (fr : Nat × Nat), w.heap[g]? = some (Obj.cells cs 5 fr) → w'.heap[g]? = w.heap[g]? := fun g cs fr hgg => by
    refine h2.block g (Array.getElem?_eq_some_iff.1 hgg).1 (fun e => ?_)
    rcases hown.1.1.2 with ⟨e1, _⟩ | ⟨g0, cap, cur, e1, _, hg0, _⟩
    · rw [e1] at e; simp [Value.ownBlock] at e
    · rw [e1] at e
      simp [Value.ownBlock] at e
      subst e
      rw [hg0] at hgg
      injection hgg with e2
      injection e2 with e3 e4
      exact absurd e4 (by decide)
  refine h v' w' ⟨by rw [List.length_append, List.map_append]; exact h1', fun p hp => ?_⟩ h4
  rcases List.mem_append.1 hp with hp | hp
  · exact (hown.2 p hp).keep h2.size hkeep
  · obtain rfl := List.mem_singleton.1 hp
    exact h1.keep h2.size hkeep
end
/-- What the reference's rows answers. -/
def RowsOut (xs : List UInt8) (a : Nat) (w : World) (e : Ending) (w' : World) : Prop :=
  Below w.heap.size w w' ∧ (Pe.rows xs a = none → e = .returned (.tuple #[.slice none 0 0, .int .i64 9])) ∧
  (∀ l, Pe.rows xs a = some l → 8 < l.length → e = .returned (.tuple #[.slice none 0 0, .int .i64 10])) ∧
  (∀ l, Pe.rows xs a = some l → ¬ 8 < l.length → ∃ v ls, e = .returned (.tuple #[v, .int .i64 0]) ∧ XS w' w.heap.size v ls ∧ ls.map (·.2) = l)
theorem RowsOut.bad {xs : List UInt8} {a : Nat} {w w' : World} (hb : Below w.heap.size w w') (h : Pe.rows xs a = none) : RowsOut xs a w (.returned (.tuple #[.slice none 0 0, .int .i64 9])) w' :=
  ⟨hb, fun _ => rfl, (fun l h1 => by rw [h] at h1; cases h1), (fun l h1 => by rw [h] at h1; cases h1)⟩
namespace Pe
theorem rowOk_in {xs : List UInt8} {a : Nat} (h : rowOk xs a = true) : ([(a, 4), (a + 4, 2), (a + 6, 2)].all fun p => inb xs p.1 p.2) = true := by
  unfold rowOk at h
  simp only [Bool.and_eq_true] at h
  simp [h.1, h.2.1.1.2.1, h.2.1.2.1]
theorem rowOk_of {xs : List UInt8} {a : Nat} (hi : ([(a, 4), (a + 4, 2), (a + 6, 2)].all fun p => inb xs p.1 p.2) = true) (h1 : 8 < at_ xs a 4) (h2 : at_ xs (a + 4) 2 = 512) (h3 : at_ xs (a + 6) 2 = 2) (h4 : up (at_ xs a 4) ≤ xs.length - a) : rowOk xs a = true := by
  simp only [List.all_cons, List.all_nil, Bool.and_true, Bool.and_eq_true] at hi
  unfold rowOk
  simp [hi.1, hi.2.1, hi.2.2, h1, h2, h3, h4]
theorem fillOk_true {xs : List UInt8} {a N U : Nat} (hN : at_ xs a 4 = N) (hU : up N = U) (h : ∀ z, a + N ≤ z → z < a + U → xs[z]? = some 0) : fillOk xs a = true := by
  unfold fillOk
  rw [hN, hU, List.all_eq_true]
  intro x hx
  obtain ⟨j, hj⟩ := List.getElem?_of_mem hx
  rw [List.getElem?_take] at hj
  split at hj
  · rw [List.getElem?_drop, h (a + N + j) (by omega) (by omega)] at hj
    injection hj with hj
    subst hj
    rfl
  · cases hj
theorem fillOk_false {xs : List UInt8} {a N U z : Nat} {x : UInt8} (hN : at_ xs a 4 = N) (hU : up N = U) (h1 : a + N ≤ z) (h2 : z < a + U) (hx : xs[z]? = some x) (h0 : x ≠ 0) : fillOk xs a = false := by
  rw [Bool.eq_false_iff]
  intro h
  unfold fillOk at h
  rw [hN, hU, List.all_eq_true] at h
  have h3 := h x (List.mem_of_getElem? (i := z - (a + N)) (by rw [List.getElem?_take, if_pos (by omega), List.getElem?_drop, show a + N + (z - (a + N)) = z by omega]; exact hx))
  simp at h3
  exact h0 h3
theorem bad_of {xs : List UInt8} {a : Nat} (h : rowOk xs a = false) : (rowOk xs a && fillOk xs a) = false := by rw [h]; rfl
end Pe
set_option maxHeartbeats 4000000 in
theorem rowsR_any (A : Option Addr) (n c a0 : Nat) (xs : List UInt8) (w : World) (h : Rd w w.heap.size A n c xs) (hn : n ≤ 16777216) (ha : a0 ≤ n) :
    Calls Tryz.prog 45 #[.slice A n c, .int .i64 (a0 : Int)] w (RowsOut xs a0 w) := by
  have hl := h.len
  have H := Lib.hid h
  clear h
  go_enter Tryz.func45, Tryz.ntmps45
  go_wp2_with fail
  go_loopw [1, 6, 7, 8, 9, 10, 11] (fun a1 v _ _ _ _ _ wr => ∃ (at' : Nat) (L : List (Value × List UInt8)), a1 = .int .i64 (at' : Int) ∧ at' ≤ n ∧ XS wr w.heap.size v L ∧ Pe.rows xs a0 = (Pe.rows xs at').map (L.map (·.2) ++ ·) ∧ L.length * 16 ≤ at' ∧ Below w.heap.size w wr) (fun a1 _ _ _ _ _ _ _ => n - (intOf a1).toNat)
  case atStart => exact ⟨a0, [], rfl, ha, XS.nil_, by simp, by simp, Below.refl _ _⟩
  case round =>
    obtain ⟨at', L, rfl, hat, hX, hrow, h16, hb⟩ := hrel
    have hsz := hb.size
    by_cases hlt : at' < n
    · have hlt' : (at' : Int) < n := by omega
      have hbad : (Pe.rowOk xs at' && Pe.fillOk xs at') = false → Pe.rows xs a0 = none := fun h1 => by rw [hrow, Pe.rows_bad (by omega) h1]; rfl
      obtain ⟨W1, hW1⟩ : ∃ W1, wr.alloc (.cells #[.int .i64 (at' : Int), .int .i64 4, .int .i64 ((at' : Int) + 4), .int .i64 2, .int .i64 ((at' : Int) + 6), .int .i64 2] 39) = W1 := ⟨_, rfl⟩
      have hB1 : Blk W1 wr.heap.size 39 ([(at', 4), (at' + 4, 2), (at' + 6, 2)].flatMap pairC).toArray := by
        rw [← hW1]
        have h1 := Blk.new wr 39 #[.int .i64 (at' : Int), .int .i64 4, .int .i64 ((at' : Int) + 4), .int .i64 2, .int .i64 ((at' : Int) + 6), .int .i64 2]
        simpa [pairC] using h1
      have hb1 : Below w.heap.size w W1 := by rw [← hW1]; exact hb.alloc hsz _
      have hbr1 : Below wr.heap.size wr W1 := by rw [← hW1]; exact (Below.refl _ _).alloc (Nat.le_refl _) _
      have hs1 : W1.heap.size = wr.heap.size + 1 := by rw [← hW1]; simp
      have hnum := numbersR_any A n c wr.heap.size 3 xs [(at', 4), (at' + 4, 2), (at' + 6, 2)] W1 ((H.out.below hb1).more hb1.size) (by omega) hB1 rfl (by omega) (by
        intro p hp
        simp only [List.mem_cons, List.not_mem_nil, or_false] at hp
        rcases hp with rfl | rfl | rfl
        · exact ⟨by dsimp only; omega, .inr (.inr rfl)⟩
        · exact ⟨by dsimp only; omega, .inr (.inl rfl)⟩
        · exact ⟨by dsimp only; omega, .inr (.inl rfl)⟩)
      obtain ⟨bi, hbi⟩ : ∃ b, ([(at', 4), (at' + 4, 2), (at' + 6, 2)].all fun p => Pe.inb xs p.1 p.2) = b := ⟨_, rfl⟩
      rw [hbi] at hnum
      have HI := Lib.hid (And.intro hX (And.intro hrow (And.intro hb (And.intro hb1 (And.intro hbr1 (And.intro hnum (And.intro hbad (And.intro hbi hW1))))))))
      clear hX hrow hb hb1 hbr1 hnum hbad hbi hB1
      go_wp2_with fail
      refine HI.out.2.2.2.2.2.1.mono ?_
      rintro e w1 ⟨hbn, v1, rfl, hv1⟩
      clear hW1
      have hb1 : Below w.heap.size w w1 := HI.out.2.2.2.1.trans (hbn.mono HI.out.2.2.2.1.size)
      have hbr : Below wr.heap.size wr w1 := HI.out.2.2.2.2.1.trans (hbn.mono (by omega))
      cases bi
      · have hno := HI.out.2.2.2.2.2.2.1 (Pe.bad_of (Bool.eq_false_iff.2 fun h1 => by have h2 := Pe.rowOk_in h1; rw [HI.out.2.2.2.2.2.2.2.1] at h2; cases h2))
        have HN := Lib.hid (And.intro hb1 hno)
        clear hb1 hbr hbn hv1 hno
        go_wp2_with fail
        exact bodyPost_ret (v := .tuple #[.slice none 0 0, .int .i64 9]) (by simp [results, Tryz.results45, go_sem]) rfl (RowsOut.bad HN.out.1 HN.out.2)
      · have hown := hv1 (by first | rfl | trivial)
        obtain ⟨gx, capx, ex, _, _⟩ := hown.1.form (by omega)
        have hgx := hown.2 gx (by rw [ex]; rfl)
        obtain ⟨N, hN⟩ : ∃ N, Pe.at_ xs at' 4 = N := ⟨_, rfl⟩
        obtain ⟨R, hR⟩ : ∃ N, Pe.at_ xs (at' + 4) 2 = N := ⟨_, rfl⟩
        obtain ⟨K, hK⟩ : ∃ N, Pe.at_ xs (at' + 6) 2 = N := ⟨_, rfl⟩
        have hNl : N < 4294967296 := by rw [← hN]; exact Pe.at_lt4 _ _
        have hRl : R < 65536 := by rw [← hR]; exact Pe.at_lt2 _ _
        have hKl : K < 65536 := by rw [← hK]; exact Pe.at_lt2 _ _
        have hcells : ∀ W, Below w1.heap.size w1 W → W.cell? ⟨gx, 0, none⟩ = some (.int .i64 (N : Int)) ∧ W.cell? ⟨gx, 1, none⟩ = some (.int .i64 (R : Int)) ∧ W.cell? ⟨gx, 2, none⟩ = some (.int .i64 (K : Int)) := fun W hW => by
          subst ex
          have c0 := hown.1.cellAt 0 (by omega)
          have c1 := hown.1.cellAt 1 (by omega)
          have c2 := hown.1.cellAt 2 (by omega)
          refine ⟨(hW.cell (p := ⟨gx, 0, none⟩) hgx).trans (c0.trans ?_), (hW.cell (p := ⟨gx, 1, none⟩) hgx).trans (c1.trans ?_), (hW.cell (p := ⟨gx, 2, none⟩) hgx).trans (c2.trans ?_)⟩
          · rw [← hN]; rfl
          · rw [← hR]; rfl
          · rw [← hK]; rfl
        subst ex
        obtain ⟨k0, k1, k2⟩ := hcells w1 (Below.refl _ _)
        have hbadN : ∀ (h1 : ¬ (8 < N ∧ R = 512 ∧ K = 2 ∧ Pe.up N ≤ n - at')), Pe.rows xs a0 = none := fun h1 => HI.out.2.2.2.2.2.2.1 (Pe.bad_of (Bool.eq_false_iff.2 fun h2 => h1 (by
          unfold Pe.rowOk at h2
          rw [hN, hR, hK, hl] at h2
          simp only [Bool.and_eq_true, decide_eq_true_eq, beq_iff_eq] at h2
          exact ⟨h2.2.1.1.1, h2.2.1.1.2.2, h2.2.1.2.2, h2.2.2⟩)))
        have HJ := Lib.hid (And.intro hb1 (And.intro hbr (And.intro hcells (And.intro hN (And.intro hR (And.intro hK hbadN))))))
        have hsz1 := hb1.size
        clear hb1 hbr hbn hown hv1 hcells hN hR hK hbadN
        by_cases c1 : (N : Int) < 9
        · have hno := HJ.out.2.2.2.2.2.2 (fun h1 => by omega)
          have HN := Lib.hid hno
          clear hno
          go_wp2_with fail
          exact bodyPost_ret (v := .tuple #[.slice none 0 0, .int .i64 9]) (by simp [results, Tryz.results45, go_sem]) rfl (RowsOut.bad HJ.out.1 HN.out)
        · obtain ⟨b2, c2⟩ : ∃ b, ((R : Int) != 512) = b := ⟨_, rfl⟩
          obtain ⟨b3, c3⟩ : ∃ b, ((K : Int) != 2) = b := ⟨_, rfl⟩
          cases b2
          · cases b3
            · have hR5 : R = 512 := by simp at c2; omega
              have hK2 : K = 2 := by simp at c3; omega
              obtain ⟨d, hd⟩ : ∃ d, (N + 7) / 8 = d := ⟨_, rfl⟩
              have hU : Pe.up N = d * 8 := by unfold Pe.up; rw [hd]
              have hNd : N ≤ d * 8 ∧ d * 8 ≤ N + 7 ∧ 16 ≤ d * 8 := by omega
              have hquo : Int.tdiv ((N : Int) + 7) 8 = (d : Int) := by rw [show (N : Int) + 7 = ((N + 7 : Nat) : Int) by omega, ← hd]; rfl
              have hcut := cutR_any A n c (at' + 8) (N - 8) ((at' : Int) + 8) ((N : Int) - 8) xs w1 ((H.out.below HJ.out.1).more hsz1) (by omega) (by omega) (by omega) (by omega) (by omega)
              obtain ⟨ci, hci⟩ : ∃ b, Pe.inb xs (at' + 8) (N - 8) = b := ⟨_, rfl⟩
              rw [hci] at hcut
              have HK := Lib.hid (And.intro hcut (And.intro hU hci))
              clear hcut hU hci hd
              go_wp2_with fail
              refine HK.out.1.mono ?_
              rintro e w2 ⟨A9, n9, c9, rfl, ho9, hb9⟩
              have hb2 : Below w.heap.size w w2 := HJ.out.1.trans (hb9.mono hsz1)
              obtain ⟨k0b, k1b, k2b⟩ := HJ.out.2.2.1 w2 hb9
              by_cases ce : at' + d * 8 ≤ n
              · have hct : ci = true := by rw [← HK.out.2.2]; unfold Pe.inb; simp; omega
                subst hct
                have ce' : ¬ ((at' : Int) + (d : Int) * 8 > n) := by omega
                have hblob : (if true = true then (xs.drop (at' + 8)).take (N - 8) else []) = Pe.blob xs at' := by unfold Pe.blob; rw [HJ.out.2.2.2.1]; rfl
                rw [hblob] at ho9
                have hrt : RdT w2 (.slice A9 n9 c9) (Pe.blob xs at') := RdT.own ho9
                have hX2 := HI.out.1.below (HJ.out.2.1.trans (hb9.mono HJ.out.2.1.size))
                have hR2 := H.out.below hb2
                have HL := Lib.hid (And.intro hb2 (And.intro hrt (And.intro hX2 hR2)))
                clear hb2 hrt hX2 ho9 hb9 k0 k1 k2 hblob hR2
                go_wp2_with fail
                obtain ⟨wf, hwf⟩ : ∃ x, x = w2 := ⟨_, rfl⟩
                subst hwf
                go_loopw [11] (fun i wr2 => ∃ q : Nat, i = .int .i64 (q : Int) ∧ at' + N ≤ q ∧ q ≤ at' + d * 8 ∧ (∀ z, at' + N ≤ z → z < q → xs[z]? = some 0) ∧ wr2 = wf) (fun i _ => at' + d * 8 - (intOf i).toNat)
                case atStart => exact ⟨at' + N, by go_num, Nat.le_refl _, hNd.1 |> fun h => by omega, fun z h1 h2 => by omega, rfl⟩
                case round =>
                  obtain ⟨q, rfl, hq1, hq2, hz, rfl⟩ := hrel
                  by_cases hqe : q < at' + d * 8
                  · have hqe' : (q : Int) < (at' : Int) + (d : Int) * 8 := by omega
                    have hql : (q : Int) < n := by omega
                    obtain ⟨b1, o1, rfl, hbw, hc⟩ := HL.out.2.2.2.at_ (by omega)
                    obtain ⟨x, hx⟩ : ∃ x, xs[q]? = some x := ⟨_, List.getElem?_eq_getElem (by omega)⟩
                    have qx := hc q x hx
                    by_cases hx0 : x = 0
                    · subst hx0
                      have qx' : wr.cell? ⟨b1, o1 + q, none⟩ = some (.int .u8 0) := qx
                      have HZ := Lib.hid (And.intro hz hx)
                      clear hz hx hc qx
                      go_wp2_with fail
                      go_roundw
                      case rel => exact ⟨q + 1, by go_num, by omega, by omega, (fun z h1 h2 => by
                        rcases Nat.lt_or_ge z q with h3 | h3
                        · exact HZ.out.1 z h1 h3
                        · obtain rfl : z = q := by omega
                          exact HZ.out.2), by first | rfl | trivial⟩
                      case measure => simp [intOf]; omega
                    · have hxn : ((x.toNat : Int) != 0) = true := by
                        have : x.toNat ≠ 0 := fun h1 => hx0 (UInt8.toNat_inj.1 h1)
                        simp; omega
                      have hno := HI.out.2.2.2.2.2.2.1 (by rw [Pe.fillOk_false HJ.out.2.2.2.1 HK.out.2.1 hq1 hqe hx hx0, Bool.and_false])
                      have HN := Lib.hid hno
                      clear hno hz hx hc
                      go_wp2_with fail
                      exact bodyPost_ret (v := .tuple #[.slice none 0 0, .int .i64 9]) (by simp [results, Tryz.results45, go_sem]) rfl (RowsOut.bad HL.out.1 HN.out)
                  · obtain rfl : q = at' + d * 8 := by omega
                    have hge : ¬ (((at' + d * 8 : Nat) : Int) < (at' : Int) + (d : Int) * 8) := by omega
                    have hfill := Pe.fillOk_true HJ.out.2.2.2.1 HK.out.2.1 hz
                    have hrk : Pe.rowOk xs at' = true := Pe.rowOk_of HI.out.2.2.2.2.2.2.2.1 (by rw [HJ.out.2.2.2.1]; omega) (by rw [HJ.out.2.2.2.2.1]; exact hR5) (by rw [HJ.out.2.2.2.2.2.1]; exact hK2) (by rw [HJ.out.2.2.2.1, HK.out.2.1]; omega)
                    have hgood := Pe.rows_good (xs := xs) (a := at') (by omega) (by rw [hrk, hfill]; rfl)
                    rw [HJ.out.2.2.2.1, HK.out.2.1] at hgood
                    obtain ⟨Av2, cv2, e6, _⟩ := HL.out.2.2.1.rdl
                    have HX := Lib.hid (And.intro (HL.out.2.2.1.alloc (.cells #[.slice A9 n9 c9] 22)) (And.intro (HL.out.2.1.alloc (.cells #[.slice A9 n9 c9] 22)) hgood))
                    have hsw := HL.out.1.size
                    subst e6
                    clear hz hfill hrk hgood k0b k1b k2b
                    go_wp2_with (first
                      | (at_builtin; refine wpList_xs2 rfl (.tmp 92) (.tmp 94) rfl w.heap.size _ L rfl HX.out.1 (by simp; omega) wr.heap.size (.slice A9 n9 c9) (Pe.blob xs at') rfl (Blk.cell (Blk.new wr _ _) 0) (by simp) HX.out.2.1 (by omega) ?_; intro v7 w7 hX7 hB7; have HZ := Lib.hid (And.intro hX7 ((HL.out.1.alloc hsw (.cells #[.slice A9 n9 c9] 22)).trans hB7)); clear hX7 hB7)
                      | fail)
                    go_roundw
                    case rel => exact ⟨at' + d * 8, L ++ [(.slice A9 n9 c9, Pe.blob xs at')], by go_num, ce, HZ.out.1, (by rw [HI.out.2.1, HX.out.2.2, Option.map_map]; congr 1; funext l; simp), (by rw [List.length_append, List.length_singleton]; omega), HZ.out.2⟩
                    case measure => simp [intOf]; omega
              · have hno := HJ.out.2.2.2.2.2.2 (fun h1 => by have h2 := h1.2.2.2; rw [HK.out.2.1] at h2; omega)
                have ce' : (at' : Int) + (d : Int) * 8 > n := by omega
                have HN := Lib.hid (And.intro hno hb2)
                clear hno hb2 ho9 hb9
                cases ci
                · go_wp2_with fail
                  exact bodyPost_ret (v := .tuple #[.slice none 0 0, .int .i64 9]) (by simp [results, Tryz.results45, go_sem]) rfl (RowsOut.bad HN.out.2 HN.out.1)
                · go_wp2_with fail
                  exact bodyPost_ret (v := .tuple #[.slice none 0 0, .int .i64 9]) (by simp [results, Tryz.results45, go_sem]) rfl (RowsOut.bad HN.out.2 HN.out.1)
            · have hno := HJ.out.2.2.2.2.2.2 (fun h1 => by rw [h1.2.2.1] at c3; cases c3)
              have HN := Lib.hid hno
              clear hno
              go_wp2_with fail
              exact bodyPost_ret (v := .tuple #[.slice none 0 0, .int .i64 9]) (by simp [results, Tryz.results45, go_sem]) rfl (RowsOut.bad HJ.out.1 HN.out)
          · have hno := HJ.out.2.2.2.2.2.2 (fun h1 => by rw [h1.2.1] at c2; cases c2)
            have HN := Lib.hid hno
            clear hno
            go_wp2_with fail
            exact bodyPost_ret (v := .tuple #[.slice none 0 0, .int .i64 9]) (by simp [results, Tryz.results45, go_sem]) rfl (RowsOut.bad HJ.out.1 HN.out)
    · obtain rfl : at' = n := by omega
      have hge : ¬ (at' : Int) < at' := by omega
      rw [Pe.rows_end (show xs.length ≤ at' by omega)] at hrow
      obtain ⟨Al, cl, rfl, _⟩ := hX.rdl
      have hLl : Pe.rows xs a0 = some (L.map (·.2)) := by rw [hrow]; simp
      have HQ := Lib.hid (And.intro hX (And.intro hb hLl))
      clear hX hb hrow hLl
      by_cases h8 : (8 : Int) < L.length
      · go_wp2_with fail
        exact bodyPost_ret (v := .tuple #[.slice none 0 0, .int .i64 10]) (by simp [results, Tryz.results45, go_sem]) rfl ⟨HQ.out.2.1, (fun h1 => by rw [HQ.out.2.2] at h1; cases h1), fun _ _ _ => rfl, fun l h1 h2 => by
          rw [HQ.out.2.2] at h1
          injection h1 with h1
          subst h1
          rw [List.length_map] at h2
          omega⟩
      · go_wp2_with fail
        exact bodyPost_ret (v := .tuple #[.slice Al L.length cl, .int .i64 0]) (by simp [results, Tryz.results45, go_sem]) rfl ⟨HQ.out.2.1, (fun h1 => by rw [HQ.out.2.2] at h1; cases h1), fun l h1 h2 => by
          rw [HQ.out.2.2] at h1
          injection h1 with h1
          subst h1
          rw [List.length_map] at h2
          omega, fun l h1 _ => by
          rw [HQ.out.2.2] at h1
          injection h1 with h1
          exact ⟨_, L, rfl, HQ.out.1, h1⟩⟩
end Go.Proofs.YtmpladnglfiejaaGreatDoor
end

section
/- The reference's reading: begins. -/
namespace Go.Proofs.YtmpladnglfiejaaGreatDoor
open Go.RowKit
set_option maxRecDepth 100000
set_option linter.unusedVariables false
set_option linter.unusedSimpArgs false
theorem beginsR_any (A : Option Addr) (n c p : Nat) (q : Int) (xs t : List UInt8) (w : World) (h : Rd w w.heap.size A n c xs) (hn : n ≤ 1099511627776) (hq : q = (p : Int)) (hp : p ≤ 1099511627776) (ht : t.length ≤ 1000) (s : Value) (hs : s = .string ⟨t.toArray⟩) :
    Calls Tryz.prog 42 #[.slice A n c, .int .i64 q, s] w fun e w' => e = .returned (.bool (Pe.inb xs p t.length && eqB ((xs.drop p).take t.length) t)) ∧ Below w.heap.size w w' := by
  subst hq hs
  have hc := cutR_any A n c p t.length p t.length xs w h hn rfl rfl hp (by omega)
  obtain ⟨b, hb⟩ : ∃ b, Pe.inb xs p t.length = b := ⟨_, rfl⟩
  obtain ⟨m, hm⟩ : ∃ m, t.length = m := ⟨_, rfl⟩
  have hsz : (ByteArray.mk t.toArray).size = m := by rw [← hm]; rfl
  have hz2 : (t.toArray).size = m := by rw [← hm]; simp
  rw [hb] at hc
  rw [hb]
  rw [hm] at hc ⊢
  have H := Lib.hid hc
  clear hc h hb
  cases b
  · go_enter Tryz.func42, Tryz.ntmps42
    go_wp2_with fail
    refine H.out.mono ?_
    rintro e w1 ⟨A1, n1, c1, rfl, _, hb1⟩
    have H1 := Lib.hid hb1
    clear hb1
    go_wp2_with fail
    go_ret
    exact ⟨by simp, H1.out⟩
  · simp only [if_true] at H
    go_enter Tryz.func42, Tryz.ntmps42
    go_wp2_with fail
    refine H.out.mono ?_
    rintro e w1 ⟨A1, n1, c1, rfl, ho1, hb1⟩
    obtain ⟨_, _, _, e1, hr1⟩ := ho1.rd
    injection e1 with q1 q2 q3
    subst q1 q2 q3
    have hs1 := run_string hr1 9 Tryz.underlying9
    have H1 := Lib.hid hb1
    clear hb1 ho1 hr1
    go_wp2_with fail
    go_ret
    exact ⟨by simp [eqB], H1.out⟩
end Go.Proofs.YtmpladnglfiejaaGreatDoor
end
