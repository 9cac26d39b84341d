/- The reference's numbers: Cut, Turned, GetBig, Get. -/
import Derived.Test.YtlfajfmkljnodaaDoorPD
namespace Go.Proofs.YtlfajfmkljnodaaDoor
open Go.RowKit
set_option maxRecDepth 100000
set_option linter.unusedVariables false
set_option linter.unusedSimpArgs false
namespace Pe
/-- The number of bytes, the highest first. -/
def numB (l : List UInt8) : Nat := l.foldl (fun x b => x * 256 + b.toNat) 0
theorem numB_snoc (l : List UInt8) (b : UInt8) : numB (l ++ [b]) = numB l * 256 + b.toNat := by simp [numB]
theorem numB_rev : ∀ l : List UInt8, numB l.reverse = num l
  | [] => rfl
  | b :: r => by rw [List.reverse_cons, numB_snoc, numB_rev r, num]; omega
theorem numB_lt (l : List UInt8) : numB l < 256 ^ l.length := by
  have h := numB_rev l.reverse
  rw [List.reverse_reverse] at h
  rw [h]
  have := num_lt l.reverse
  rwa [List.length_reverse] at this
end Pe
theorem sizedR_any (k : Nat) (w : World) (hk : Pe.Size k) : Calls Tryd.prog 36 #[.int .i64 (k : Int)] w fun e w' => e = .returned (.bool true) ∧ w' = w := by
  rcases hk with rfl | rfl | rfl
  all_goals
    go_enter Tryd.func36, Tryd.ntmps36
    go_wp2
    go_ret
    exact ⟨rfl, rfl⟩
theorem cutR_any (A : Option Addr) (n c p k : Nat) (q y : Int) (xs : List UInt8) (w : World) (h : Rd w w.heap.size A n c xs) (hn : n ≤ 1099511627776) (hq : q = (p : Int)) (hy : y = (k : Int)) (hp : p ≤ 1099511627776) (hk : k ≤ 1099511627776) :
    Calls Tryd.prog 35 #[.slice A n c, .int .i64 q, .int .i64 y] w fun e w' => ∃ A' n' c', e = .returned (.tuple #[.slice A' n' c', .bool (Pe.inb xs p k)]) ∧ OwnB w' w.heap.size w'.heap.size (.slice A' n' c') (if Pe.inb xs p k then (xs.drop p).take k else []) ∧ Below w.heap.size w w' := by
  subst hq hy
  have hl := h.len
  have h0 : ¬ ((p : Int) < 0) := by omega
  have h1 : ¬ ((k : Int) < 0) := by omega
  by_cases hpk : p + k ≤ n
  · have e : Pe.inb xs p k = true := by unfold Pe.inb; simp; omega
    obtain ⟨A1, hr1, hrun, hrun2⟩ := run_cut h p (p + k) p ((p : Int) + k) rfl (by omega) (by omega) hpk
    rw [List.drop_take] at hr1
    have hcp := copy_any A1 (p + k - p) (c - p) _ w hr1 (by omega)
    have h2 : ¬ ((p : Int) > n) := by omega
    have h3 : ¬ ((k : Int) > (n : Int) - p) := by omega
    rw [e]
    rw [show p + k - p = k by omega] at hcp hrun hrun2
    have H := Lib.hid hcp
    clear hcp h hr1
    go_enter Tryd.func35, Tryd.ntmps35
    go_wp2_with fail
    refine H.out.mono ?_
    rintro e w1 ⟨A2, n2, c2, rfl, ho, hb⟩
    have H1 := Lib.hid (And.intro ho hb)
    clear ho hb
    go_wp2_with fail
    exact bodyPost_ret (v := .tuple #[.slice A2 n2 c2, .bool true]) (by simp [results, Tryd.results35, go_sem]) rfl ⟨A2, n2, c2, rfl, H1.out.1, H1.out.2⟩
  · have e : Pe.inb xs p k = false := by unfold Pe.inb; simp; omega
    rw [e]
    clear h
    by_cases h2 : (p : Int) > n
    · go_enter Tryd.func35, Tryd.ntmps35
      go_wp2_with fail
      exact bodyPost_ret (v := .tuple #[.slice none 0 0, .bool false]) (by simp [results, Tryd.results35, go_sem]) rfl ⟨none, 0, 0, rfl, OwnB.nil_, Below.refl _ _⟩
    · have h3 : (k : Int) > (n : Int) - p := by omega
      go_enter Tryd.func35, Tryd.ntmps35
      go_wp2_with fail
      exact bodyPost_ret (v := .tuple #[.slice none 0 0, .bool false]) (by simp [results, Tryd.results35, go_sem]) rfl ⟨none, 0, 0, rfl, OwnB.nil_, Below.refl _ _⟩
set_option maxHeartbeats 1000000 in
theorem turned_any (A : Option Addr) (n c : Nat) (xs : List UInt8) (w : World) (h : Rd w w.heap.size A n c xs) (hn : n ≤ 1099511627776) :
    Calls Tryd.prog 38 #[.slice A n c] w (RetOwn xs.reverse w) := by
  have hl := h.len
  have H := Lib.hid h
  clear h
  go_enter Tryd.func38, Tryd.ntmps38
  go_wp2_with fail
  go_loopw [3, 4] (fun v i wr => ∃ j : Nat, j ≤ n ∧ i = .int .i64 ((j : Int) - 1) ∧ OwnB wr w.heap.size wr.heap.size v (xs.drop j).reverse ∧ Below w.heap.size w wr) (fun _ i _ => (intOf i + 1).toNat)
  case atStart => exact ⟨n, Nat.le_refl _, rfl, by rw [List.drop_of_length_le (by omega)]; exact OwnB.nil_, Below.refl _ _⟩
  case round =>
    obtain ⟨j, hj, rfl, ho, hb⟩ := hrel
    by_cases h0 : j = 0
    · subst h0
      have hge : ¬ ((0 : Int) ≤ ((0 : Nat) : Int) - 1) := by omega
      have HO := Lib.hid (And.intro ho hb)
      clear ho hb
      go_wp2_with fail
      go_ret
      have h1 := HO.out.1
      rw [List.drop_zero] at h1
      exact retOwn h1 HO.out.2
    · obtain ⟨i, rfl⟩ : ∃ i, j = i + 1 := ⟨j - 1, by omega⟩
      have hge : (0 : Int) ≤ ((i + 1 : Nat) : Int) - 1 := by omega
      have hii : ((i + 1 : Nat) : Int) - 1 = (i : Int) := by omega
      obtain ⟨b, o, rfl, hbw, hc⟩ := H.out.at_ (by omega)
      have hx : xs[i]? = some (xs[i]'(by omega)) := List.getElem?_eq_getElem (by omega)
      obtain ⟨x, hx'⟩ : ∃ x, xs[i]'(by omega) = x := ⟨_, rfl⟩
      rw [hx'] at hx
      have q1 : wr.cell? ⟨b, o + i, none⟩ = some (.int .u8 (x.toNat : Int)) := (hb.cell (p := ⟨b, o + i, none⟩) hbw).trans (hc i x hx)
      have hsn : (xs.drop i).reverse = (xs.drop (i + 1)).reverse ++ [x] := by
        have e : xs.drop i = xs[i]'(by omega) :: xs.drop (i + 1) := List.drop_eq_getElem_cons (by omega)
        rw [e, List.reverse_cons, hx']
      have hlen : (xs.drop (i + 1)).reverse.length ≤ n := by rw [List.length_reverse, List.length_drop]; omega
      have hil : (i : Int) < n := by omega
      have HO := Lib.hid (And.intro ho (And.intro hb (And.intro hsn hlen)))
      clear ho hb hsn hlen hc hx hx'
      rw [hii] at *
      go_wp2_with
        (at_builtin
         refine wpList_app rfl (.tmp 12) (.tmp 17) rfl w.heap.size _ _ (xs.drop (i + 1)).reverse rfl (HO.out.1.alloc (Nat.le_refl _) _) (by have := HO.out.2.1.size; simp; omega) _ _ 1 1 [x] rfl (reads_block _ 5 [.int .u8 (x.toNat : Int)] _ rfl) (by have := HO.out.2.2.2; omega) ?_
         intro v2 w2 ho2 hg2 hat2 hb2
         have HA := Lib.hid (And.intro ho2 (((HO.out.2.1.alloc HO.out.2.1.size (.cells #[.int .u8 (x.toNat : Int)] 5))).trans hb2))
         clear ho2 hg2 hat2 hb2)
      go_roundw
      case rel => exact ⟨i, by omega, by rfl, by rw [HO.out.2.2.1]; exact HA.out.1, HA.out.2⟩
      case measure => simp [intOf]
set_option maxHeartbeats 1000000 in
theorem getBig_any (A : Option Addr) (n c : Nat) (xs : List UInt8) (w : World) (h : Rd w w.heap.size A n c xs) (hk : Pe.Size n) :
    Calls Tryd.prog 37 #[.slice A n c, .int .i64 0, .int .i64 (n : Int)] w fun e w' => e = .returned (.tuple #[.int .u64 (Pe.numB xs : Int), .int .i64 0]) ∧ Below w.heap.size w w' := by
  have hl := h.len
  have hn4 : n ≤ 4 := by rcases hk with rfl | rfl | rfl <;> omega
  have hc := cutR_any A n c 0 n 0 n xs w h (by omega) rfl rfl (by omega) (by omega)
  have e : Pe.inb xs 0 n = true := by unfold Pe.inb; simp; omega
  rw [e] at hc
  simp only [if_true, List.drop_zero] at hc
  rw [List.take_of_length_le (by omega)] at hc
  have hsz := fun W => sizedR_any n W hk
  have H := Lib.hid (And.intro hc hsz)
  clear h hc hsz e hk
  go_enter Tryd.func37, Tryd.ntmps37
  go_wp2_with fail
  refine H.out.1.mono ?_
  rintro e w1 ⟨A1, n1, c1, rfl, ho, hb⟩
  obtain ⟨_, _, _, e1, hr1⟩ := ho.rd
  injection e1 with e11 e12 e13
  subst e11 e12 e13
  have hn1 : n = n1 := by have := hr1.len; omega
  subst hn1
  have H1 := Lib.hid (And.intro hr1 hb)
  clear ho hr1 hb
  go_wp2_with fail
  refine (H.out.2 w1).mono ?_
  rintro e w2 ⟨rfl, rfl⟩
  go_wp2_with fail
  go_loopw [10, 11] (fun v i wr => ∃ j : Nat, j ≤ n ∧ i = .int .i64 (j : Int) ∧ v = .int .u64 (Pe.numB (xs.take j) : Int) ∧ wr = w2) (fun _ i _ => n - (intOf i).toNat)
  case atStart => exact ⟨0, Nat.zero_le _, rfl, rfl, rfl⟩
  case round =>
    obtain ⟨j, hj, rfl, rfl, rfl⟩ := hrel
    by_cases hlt : j < n
    · have hlt' : (j : Int) < n := by omega
      obtain ⟨b, o, rfl, hbw, hc⟩ := H1.out.1.at_ (by omega)
      have hx : xs[j]? = some (xs[j]'(by omega)) := List.getElem?_eq_getElem (by omega)
      obtain ⟨x, hx'⟩ : ∃ x, xs[j]'(by omega) = x := ⟨_, rfl⟩
      rw [hx'] at hx
      have q1 := hc j x hx
      have hsn : Pe.numB (xs.take (j + 1)) = Pe.numB (xs.take j) * 256 + x.toNat := by rw [take_snoc hx, Pe.numB_snoc]
      have hlt2 := Pe.numB_lt (xs.take j)
      have hl3 : (xs.take j).length ≤ 3 := by rw [List.length_take]; omega
      have hlt3 : Pe.numB (xs.take j) < 16777216 := Nat.lt_of_lt_of_le hlt2 (by have := Nat.pow_le_pow_right (n := 256) (by omega) hl3; omega)
      have hxl := x.toNat_lt
      obtain ⟨N, hN⟩ : ∃ N, Pe.numB (xs.take j) = N := ⟨_, rfl⟩
      rw [hN] at hsn hlt3 ⊢
      have i1 : IntKind.u64.wrap ((N : Int) * 256) = (N : Int) * 256 := by simp only [IntKind.wrap, IntKind.bits, IntKind.signed]; simp; omega
      have i2 : IntKind.u64.wrap ((x.toNat : Nat) : Int) = ((x.toNat : Nat) : Int) := by simp only [IntKind.wrap, IntKind.bits, IntKind.signed]; simp; omega
      have i3 : IntKind.u64.wrap ((N : Int) * 256 + ((x.toNat : Nat) : Int)) = (N : Int) * 256 + ((x.toNat : Nat) : Int) := by simp only [IntKind.wrap, IntKind.bits, IntKind.signed]; simp; omega
      have HS := Lib.hid hsn
      clear hsn hc hx hx' hlt2 hN
      go_wp2_with fail
      go_roundw
      case rel => exact ⟨j + 1, by omega, by go_num, by rw [HS.out]; go_num, by first | rfl | trivial⟩
      case measure => simp [intOf]; omega
    · obtain rfl : j = n := by omega
      have hge : ¬ (j : Int) < j := by omega
      rw [List.take_of_length_le (by omega)]
      go_wp2_with fail
      exact bodyPost_ret (v := .tuple #[.int .u64 (Pe.numB xs : Int), .int .i64 0]) (by simp [results, Tryd.results37, go_sem]) rfl ⟨rfl, H1.out.2⟩
/-- The reference's Get. -/
theorem getR_any (A : Option Addr) (n c p k : Nat) (q y : Int) (xs : List UInt8) (w : World) (h : Rd w w.heap.size A n c xs) (hn : n ≤ 1099511627776) (hq : q = (p : Int)) (hy : y = (k : Int)) (hp : p ≤ 1099511627776) (hk : Pe.Size k) :
    Calls Tryd.prog 23 #[.slice A n c, .int .i64 q, .int .i64 y] w fun e w' => e = .returned (.tuple #[.int .u64 (Pe.at_ xs p k : Int), .int .i64 (if Pe.inb xs p k then 0 else 1)]) ∧ Below w.heap.size w w' := by
  subst hq hy
  have hl := h.len
  have hk4 : k ≤ 4 := by rcases hk with rfl | rfl | rfl <;> omega
  have hc := cutR_any A n c p k p k xs w h hn rfl rfl hp (by omega)
  have hsz := fun W => sizedR_any k W hk
  have H := Lib.hid (And.intro hc (And.intro hsz hk))
  clear h hc hsz
  go_enter Tryd.func23, Tryd.ntmps23
  go_wp2_with fail
  refine H.out.1.mono ?_
  rintro e w1 ⟨A1, n1, c1, rfl, ho, hb⟩
  by_cases hin : p + k ≤ n
  · have hinb : Pe.inb xs p k = true := by unfold Pe.inb; simp; omega
    rw [hinb] at ho ⊢
    simp only [if_true] at ho
    obtain ⟨_, _, _, e1, hr1⟩ := ho.rd
    injection e1 with e11 e12 e13
    subst e11 e12 e13
    have hn1 : k = n1 := by have := hr1.len; rw [List.length_take, List.length_drop] at this; omega
    subst hn1
    have hat : Pe.at_ xs p k = Pe.num ((xs.drop p).take k) := by unfold Pe.at_; rw [if_pos (by omega)]
    obtain ⟨l, hll⟩ : ∃ l, (xs.drop p).take k = l := ⟨_, rfl⟩
    rw [hll] at hr1 hat
    have ht := turned_any A1 k c1 l w1 hr1 (by omega)
    have H1 := Lib.hid (And.intro ht (And.intro hb (And.intro hat hr1.len)))
    clear ho hr1 ht hb hat hll
    go_wp2_with fail
    refine (H.out.2.1 w1).mono ?_
    rintro e w2 ⟨rfl, rfl⟩
    go_wp2_with fail
    refine H1.out.1.mono ?_
    rintro e w2 ⟨A2, n2, c2, rfl, ho2, hb2⟩
    obtain ⟨_, _, _, e1, hr2⟩ := ho2.rd
    injection e1 with e11 e12 e13
    subst e11 e12 e13
    have hb02 := H1.out.2.1.trans (hb2.mono H1.out.2.1.size)
    have H2 := Lib.hid (And.intro hr2 hb02)
    have hll : l.length = k := H1.out.2.2.2
    have hn2 : k = n2 := by have := hr2.len; rw [List.length_reverse] at this; omega
    subst hn2
    have hg := getBig_any A2 k c2 l.reverse w2 hr2 H.out.2.2
    rw [Pe.numB_rev, ← H1.out.2.2.1] at hg
    have HG := Lib.hid hg
    clear ho2 hb2 hr2 hb02 hg hll
    go_wp2_with fail
    refine HG.out.mono ?_
    rintro e w3 ⟨rfl, hb3⟩
    have H3 := Lib.hid (H2.out.2.trans (hb3.mono H2.out.2.size))
    clear hb3
    go_wp2_with fail
    exact bodyPost_ret (v := .tuple #[.int .u64 (Pe.at_ xs p k : Int), .int .i64 0]) (by simp [results, Tryd.results23, go_sem]) rfl ⟨by first | rfl | (rw [hinb]; rfl), H3.out⟩
  · have hinb : Pe.inb xs p k = false := by unfold Pe.inb; simp; omega
    have e0 : Pe.at_ xs p k = 0 := by unfold Pe.at_; rw [if_neg (by omega)]
    rw [hinb]
    have H1 := Lib.hid hb
    clear ho hb
    go_wp2_with fail
    refine (H.out.2.1 w1).mono ?_
    rintro e w2 ⟨rfl, rfl⟩
    go_wp2_with fail
    all_goals exact bodyPost_ret (v := .tuple #[.int .u64 0, .int .i64 1]) (by simp [results, Tryd.results23, go_sem]) rfl ⟨by first | rfl | (rw [hinb]; rfl) | (rw [hinb, e0]; rfl), H1.out⟩
end Go.Proofs.YtlfajfmkljnodaaDoor
