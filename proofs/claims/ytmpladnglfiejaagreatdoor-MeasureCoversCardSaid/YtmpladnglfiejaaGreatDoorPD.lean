/- Joined of: PeGet PeLE PeTable PeShape PeOrder PeWrite PeTrim PeRd PeGr. -/
import Derived.Test.YtmpladnglfiejaaGreatDoorPA
import Derived.Test.YtmpladnglfiejaaGreatDoorPC
import Derived.BigQuiet
import Derived.Deep.QuietTactic
import Derived.Deep.MidRow
import Derived.Deep.Cut
import Derived.Deep.CutRange
import Derived.Deep.RegionHeld3
section
/- The contracts of octet.Get and of the reader's two steps. -/
namespace Go.Proofs.YtmpladnglfiejaaGreatDoor
open Go.RowKit
set_option maxRecDepth 100000
set_option linter.unusedVariables false
set_option linter.unusedSimpArgs false

/-- A size that a number may have. -/
def Pe.Size (n : Nat) : Prop := n = 1 ∨ n = 2 ∨ n = 4
theorem index_sizes (g k : Nat) (w : World) (hk : Pe.Size k) (hB : Blk w g 161 #[.int .i64 1, .int .i64 2, .int .i64 4, .int .i64 8]) :
    Calls Tryz.prog 124 #[.slice (some ⟨g, 0, none⟩) 4 4, .int .i64 (k : Int)] w fun e w' => (∃ j : Nat, e = .returned (.int .i64 (j : Int))) ∧ w' = w := by
  obtain ⟨hc, _⟩ := hB.facts
  have h0 : w.cell? ⟨g, 0, none⟩ = some (.int .i64 1) := hc 0
  have h1 : w.cell? ⟨g, 1, none⟩ = some (.int .i64 2) := hc 1
  have h2 : w.cell? ⟨g, 2, none⟩ = some (.int .i64 4) := hc 2
  clear hc hB
  rcases hk with rfl | rfl | rfl
  · go_enter Tryz.func124, Tryz.ntmps124
    go_wp2
    refine wp_loop_rounds 1 ?_
    rw [rounds_succ]
    go_wp2
    go_ret
    exact ⟨⟨0, rfl⟩, rfl⟩
  · go_enter Tryz.func124, Tryz.ntmps124
    go_wp2
    refine wp_loop_rounds 2 ?_
    rw [rounds_succ]
    go_wp2
    rw [rounds_succ]
    go_wp2
    go_ret
    exact ⟨⟨1, rfl⟩, rfl⟩
  · go_enter Tryz.func124, Tryz.ntmps124
    go_wp2
    refine wp_loop_rounds 3 ?_
    rw [rounds_succ]
    go_wp2
    rw [rounds_succ]
    go_wp2
    rw [rounds_succ]
    go_wp2
    go_ret
    exact ⟨⟨2, rfl⟩, rfl⟩
theorem sized_any (k : Nat) (w : World) (hk : Pe.Size k) : Calls Tryz.prog 109 #[.int .i64 (k : Int)] w fun e w' => e = .returned (.bool true) ∧ Below w.heap.size w w' := by
  have hb := (Below.refl w.heap.size w).alloc (Nat.le_refl _) (.cells #[.int .i64 1, .int .i64 2, .int .i64 4, .int .i64 8] 161)
  have hi := index_sizes w.heap.size k _ hk (Blk.new w 161 #[.int .i64 1, .int .i64 2, .int .i64 4, .int .i64 8])
  have HI := Lib.hid (And.intro hb hi)
  clear hb hi
  have hcon : Calls Tryz.prog 120 #[.slice (some ⟨w.heap.size, 0, none⟩) 4 4, .int .i64 (k : Int)] (w.alloc (.cells #[.int .i64 1, .int .i64 2, .int .i64 4, .int .i64 8] 161)) fun e w' => e = .returned (.bool true) ∧ w' = w.alloc (.cells #[.int .i64 1, .int .i64 2, .int .i64 4, .int .i64 8] 161) := by
    go_enter Tryz.func120, Tryz.ntmps120
    go_wp2_with fail
    refine HI.out.2.mono ?_
    rintro e w1 ⟨⟨j, rfl⟩, rfl⟩
    have hj : (0 : Int) ≤ j := by omega
    go_wp2
    go_ret
    exact ⟨rfl, rfl⟩
  have HC := Lib.hid hcon
  clear hcon
  go_enter Tryz.func109, Tryz.ntmps109
  go_wp2_with fail
  refine HC.out.mono ?_
  rintro e w1 ⟨rfl, rfl⟩
  go_wp2
  go_ret
  exact ⟨rfl, HI.out.1⟩
theorem within_any (A : Option Addr) (n c : Nat) (p k : Nat) (w : World) (hn : n ≤ 1099511627776) (hp : p ≤ 1099511627776) (hk : k ≤ 8) :
    Calls Tryz.prog 110 #[.slice A n c, .int .i64 (p : Int), .int .i64 (k : Int)] w fun e w' => e = .returned (.bool (decide (p + k ≤ n))) ∧ w' = w := by
  have h1 : (0 : Int) ≤ p := by omega
  have h2 : (0 : Int) ≤ k := by omega
  by_cases h3 : p ≤ n
  · have h3' : (p : Int) ≤ n := by omega
    by_cases h4 : p + k ≤ n
    · have h4' : (k : Int) ≤ n - p := by omega
      rw [decide_eq_true h4]
      clear h4
      go_enter Tryz.func110, Tryz.ntmps110
      go_wp2
      go_ret
      exact ⟨rfl, rfl⟩
    · have h4' : ¬ (k : Int) ≤ n - p := by omega
      rw [decide_eq_false h4]
      clear h4
      go_enter Tryz.func110, Tryz.ntmps110
      go_wp2
      go_ret
      exact ⟨rfl, rfl⟩
  · have h3' : ¬ (p : Int) ≤ n := by omega
    rw [decide_eq_false (show ¬ p + k ≤ n by omega)]
    clear h3
    go_enter Tryz.func110, Tryz.ntmps110
    go_wp2
    go_ret
    exact ⟨rfl, rfl⟩
theorem straight_any (i : Int) (w : World) : Calls Tryz.prog 90 #[.int .i64 i] w fun e w' => e = .returned (.int .i64 i) ∧ w' = w := by
  go_enter Tryz.func90, Tryz.ntmps90
  go_wp2
  go_ret
  exact ⟨rfl, rfl⟩
theorem Pe.num_take (l : List UInt8) (k : Nat) (x : UInt8) (h : l[k]? = some x) : Pe.num (l.take (k + 1)) = Pe.num (l.take k) + 256 ^ k * x.toNat := by
  have hk : k < l.length := (List.getElem?_eq_some_iff.1 h).1
  rw [List.take_add_one, h]
  show Pe.num (l.take k ++ [x]) = _
  rw [Pe.num_append]
  simp [Pe.num, Nat.min_eq_left (Nat.le_of_lt hk)]
theorem u64_shl_or (a x k : Nat) (hk : k < 4) (ha : a < 256 ^ k) (hx : x < 256) : bits .or .u64 (a : Int) ((x * 256 ^ k : Nat) : Int) = ((a + 256 ^ k * x : Nat) : Int) := by
  have h256 : (256 : Nat) ^ k ≤ 256 ^ 3 := Nat.pow_le_pow_right (by omega) (by omega)
  have h3 : (256 : Nat) ^ 3 = 16777216 := rfl
  have hxk : x * 256 ^ k ≤ 255 * 16777216 := Nat.mul_le_mul (by omega) (by omega)
  rw [u64_or_nat _ _ (by omega) (by omega)]
  congr 1
  have e : (256 : Nat) ^ k = 2 ^ (8 * k) := by rw [show 256 = 2 ^ 8 from rfl, ← Nat.pow_mul]
  rw [e] at ha ⊢
  rw [Nat.or_comm, Nat.mul_comm x, ← Nat.two_pow_add_eq_or_of_lt ha, Nat.add_comm]
theorem wrap_u64_small (x : Nat) (hx : x < 18446744073709551616) : IntKind.u64.wrap (x : Int) = (x : Int) := by
  simp only [IntKind.wrap, IntKind.bits, IntKind.signed]
  simp
  omega
theorem shl_u64 (x k : Nat) (hk : k < 4) (hx : x < 256) : IntKind.u64.wrap (IntKind.u64.wrap (x : Int) * 2 ^ (8 * k)) = ((x * 256 ^ k : Nat) : Int) := by
  have h256 : (256 : Nat) ^ k ≤ 256 ^ 3 := Nat.pow_le_pow_right (by omega) (by omega)
  have h3 : (256 : Nat) ^ 3 = 16777216 := rfl
  have hxk : x * 256 ^ k ≤ 255 * 16777216 := Nat.mul_le_mul (by omega) (by omega)
  have e2 : ((x : Int) * 2 ^ (8 * k)) = ((x * 256 ^ k : Nat) : Int) := by
    rw [show (256 : Nat) = 2 ^ 8 from rfl, ← Nat.pow_mul]
    push_cast
    rfl
  rw [wrap_u64_small x (by omega), e2]
  exact wrap_u64_small _ (by omega)
/-- The error's number where a number isn't within. -/
def Pe.er (xs : List UInt8) (p k : Nat) : Int := if Pe.inb xs p k then 0 else 1
/-- What Get answers. -/
def GetPost (xs : List UInt8) (p k : Nat) (w : World) (e : Ending) (w' : World) : Prop :=
  e = .returned (.tuple #[.int .u64 (Pe.at_ xs p k : Int), .int .i64 (Pe.er xs p k)]) ∧ Below w.heap.size w w'
set_option maxHeartbeats 1000000 in
theorem get_any (A : Option Addr) (n c : Nat) (xs : List UInt8) (p k : Nat) (w : World) (h : Rd w w.heap.size A n c xs) (hn : n ≤ 1099511627776) (hp : p ≤ 1099511627776) (hk : Pe.Size k) :
    Calls Tryz.prog 89 #[.slice A n c, .int .i64 (p : Int), .int .i64 (k : Int), .func (.func 90) #[] #[]] w (GetPost xs p k w) := by
  have hl := h.len
  have hk4 : k ≤ 4 ∧ 0 < k := by rcases hk with rfl | rfl | rfl <;> omega
  have HK := Lib.hid hk
  clear hk
  by_cases hin : p + k ≤ n
  · go_enter Tryz.func89, Tryz.ntmps89
    go_wp2_with fail
    refine (sized_any k w HK.out).mono ?_
    rintro e w1 ⟨rfl, hb1⟩
    have hr1 := h.up hb1
    have HB := Lib.hid hb1
    go_wp2_with fail
    refine (within_any A n c p k w1 hn hp (by omega)).mono ?_
    rintro e w2 ⟨he, rfl⟩
    rw [decide_eq_true hin] at he
    subst he
    go_wp2_with fail
    obtain ⟨b, o, rfl, hb, hcell⟩ := hr1.at_ (by omega)
    go_loop [8, 22] (fun x i => ∃ j : Nat, j ≤ k ∧ i = .int .i64 j ∧ x = .int .u64 (Pe.num ((xs.drop p).take j) : Int)) (fun _ i => k - (intOf i).toNat)
    case atStart => exact ⟨0, Nat.zero_le _, rfl, rfl⟩
    case round =>
      obtain ⟨j, hj, rfl, rfl⟩ := hrel
      by_cases hlt : j < k
      · have hlt' : (j : Int) < k := by omega
        obtain ⟨y, hy⟩ : ∃ y, xs[p + j]? = some y := ⟨xs[p + j]'(by omega), List.getElem?_eq_getElem _⟩
        have hc := hcell (p + j) y hy
        have hnum := Pe.num_take (xs.drop p) j y (by rw [List.getElem?_drop]; exact hy)
        have hnl := Pe.num_lt ((xs.drop p).take j)
        rw [show ((xs.drop p).take j).length = j by simp; omega] at hnl
        obtain ⟨a, ha⟩ : ∃ a, Pe.num ((xs.drop p).take j) = a := ⟨_, rfl⟩
        rw [ha] at hnl hnum ⊢
        have hsh := shl_u64 y.toNat j (by omega) y.toNat_lt
        have hor := u64_shl_or a y.toNat j (by omega) hnl y.toNat_lt
        have e1 : o + (p + j) = o + (p + j) := rfl
        have HN := Lib.hid (And.intro hnum (And.intro hsh hor))
        clear hnum hy hsh hor
        have hj8 : (0 : Int) ≤ 8 * (j : Int) := by omega
        have hj64 : (8 * (j : Int)) < 64 := by omega
        go_wp2_with fail
        refine (straight_any (j : Int) _).mono ?_
        rintro e w3 ⟨rfl, rfl⟩
        go_wp2_with fail
        go_roundw
        case rel => exact ⟨j + 1, by omega, by go_num, by rw [HN.out.2.1, HN.out.2.2, HN.out.1]⟩
        case measure => simp [intOf]; omega
      · obtain rfl : j = k := by omega
        have hge : ¬ (j : Int) < j := by omega
        have HB2 := Lib.hid HB.out
        clear hb1 hcell hr1
        go_wp2
        go_ret2
        refine ⟨?_, HB2.out⟩
        unfold Pe.er Pe.inb Pe.at_
        rw [if_pos (by omega), if_pos (by simp; omega)]
        rfl
  · go_enter Tryz.func89, Tryz.ntmps89
    go_wp2_with fail
    refine (sized_any k w HK.out).mono ?_
    rintro e w1 ⟨rfl, hb1⟩
    have HB := Lib.hid hb1
    clear hb1
    go_wp2_with fail
    refine (within_any A n c p k w1 hn hp (by omega)).mono ?_
    rintro e w2 ⟨he, rfl⟩
    rw [decide_eq_false hin] at he
    subst he
    go_wp2
    go_ret2
    refine ⟨?_, HB.out⟩
    unfold Pe.er Pe.inb Pe.at_
    rw [if_neg (by omega), if_neg (by simp; omega)]
    rfl
theorem Get_any (A : Option Addr) (n c : Nat) (xs : List UInt8) (p k : Nat) (w : World) (h : Rd w w.heap.size A n c xs) (hn : n ≤ 1099511627776) (hp : p ≤ 1099511627776) (hk : Pe.Size k) :
    Calls Tryz.prog 70 #[.slice A n c, .int .i64 (p : Int), .int .i64 (k : Int)] w (GetPost xs p k w) := by
  have hg := get_any A n c xs p k w h hn hp hk
  go_enter Tryz.func70, Tryz.ntmps70
  go_wp2_with fail
  refine hg.mono ?_
  rintro e w1 ⟨rfl, hb⟩
  go_wp2
  go_ret2
  exact ⟨rfl, hb⟩
end Go.Proofs.YtmpladnglfiejaaGreatDoor
end

section
/- The contracts of lintelref01.Put and lintelref16.put. -/
namespace Go.Proofs.YtmpladnglfiejaaGreatDoor
open Go.RowKit
set_option maxRecDepth 100000
set_option linter.unusedVariables false
set_option linter.unusedSimpArgs false

theorem sized1_any (k : Nat) (w : World) (hk : Pe.Size k) : Calls Tryz.prog 86 #[.int .i64 (k : Int)] w fun e w' => e = .returned (.bool true) ∧ w' = w := by
  rcases hk with rfl | rfl | rfl
  · go_enter Tryz.func86, Tryz.ntmps86
    go_wp2
    go_ret
    exact ⟨rfl, rfl⟩
  · go_enter Tryz.func86, Tryz.ntmps86
    go_wp2
    go_ret
    exact ⟨rfl, rfl⟩
  · go_enter Tryz.func86, Tryz.ntmps86
    go_wp2
    go_ret
    exact ⟨rfl, rfl⟩
theorem low_any (x k : Nat) (w : World) (hx : x < 18446744073709551616) (hk : Pe.Size k) :
    Calls Tryz.prog 69 #[.int .u64 (x : Int), .int .i64 (k : Int)] w (RetOwn (Pe.leN k x) w) := by
  have hk4 : k ≤ 4 := by rcases hk with rfl | rfl | rfl <;> omega
  have HK := Lib.hid hk
  clear hk
  go_enter Tryz.func69, Tryz.ntmps69
  go_wp2
  go_loopw [0, 5, 6] (fun vx v i wr => ∃ (j y : Nat) (acc : List UInt8), j ≤ k ∧ i = .int .i64 (j : Int) ∧ vx = .int .u64 (y : Int) ∧ y < 18446744073709551616 ∧ acc.length = j ∧ acc ++ Pe.leN (k - j) y = Pe.leN k x ∧ OwnB wr w.heap.size wr.heap.size v acc ∧ Below w.heap.size w wr) (fun _ _ i _ => k - (intOf i).toNat)
  case atStart => exact ⟨0, x, [], Nat.zero_le _, rfl, rfl, hx, rfl, by simp, OwnB.nil_, Below.refl _ _⟩
  case round =>
    obtain ⟨j, y, acc, hj, rfl, rfl, hy, hal, hacc, ho, hb⟩ := hrel
    by_cases hlt : j < k
    · have hlt' : (j : Int) < k := by omega
      have e1 : (Value.int .u8 ((y : Int) % 256)) = bv (UInt8.ofNat y) := by
        simp only [bv, UInt8.toNat_ofNat']
        congr 1
      have hone : Hid (Reads (wr.alloc (.cells #[.int .u8 ((y : Int) % 256)] 5)) (wr.heap.size + 1) 1 (some ⟨wr.heap.size, 0, none⟩) 1 ([UInt8.ofNat y].map bv)) := by
        rw [e1]; exact Reads.one wr 5 _
      have hst : (acc ++ [UInt8.ofNat y]) ++ Pe.leN (k - (j + 1)) (y / 256) = Pe.leN k x := by
        rw [← hacc, List.append_assoc]
        obtain ⟨r, hr⟩ : ∃ r, k - j = r + 1 := ⟨k - j - 1, by omega⟩
        rw [hr, show k - (j + 1) = r by omega]; rfl
      have HS := Lib.hid (And.intro hst (And.intro ho hal))
      clear e1 hst hacc ho hal
      go_wp2_with fail
      refine (sized1_any k wr HK.out).mono ?_
      rintro e w1 ⟨rfl, rfl⟩
      go_wp2_with
        (at_builtin
         refine wpList_app rfl (.tmp 16) (.tmp 20) rfl w.heap.size w1.heap.size _ acc rfl (HS.out.2.1.alloc (Nat.le_refl _) _) (by simp; have := hb.size; omega) _ _ 1 1 [UInt8.ofNat y] rfl hone.out (by have := HS.out.2.2; omega) ?_
         intro v2 w2 ho2 hg2 hat2 hb2)
      go_roundw
      case rel => exact ⟨j + 1, y / 256, acc ++ [UInt8.ofNat y], by omega, by go_num, by go_num, by omega, by rw [List.length_append, HS.out.2.2]; rfl, HS.out.1, ho2, (hb.alloc hb.size _).trans hb2⟩
      case measure => simp [intOf]; omega
    · obtain rfl : j = k := by omega
      rw [Nat.sub_self, Pe.leN, List.append_nil] at hacc
      subst hacc
      have hge : ¬ (j : Int) < j := by omega
      have HS := Lib.hid (And.intro ho hb)
      clear ho hb
      go_wp2
      go_ret
      exact retOwn HS.out.1 HS.out.2
theorem putn_any (x k : Nat) (w : World) (hx : x < 18446744073709551616) (hk : Pe.Size k) :
    Calls Tryz.prog 50 #[.slice none 0 0, .int .u64 (x : Int), .int .i64 (k : Int)] w (RetOwn (Pe.leN k x) w) := by
  have hk4 : k ≤ 4 := by rcases hk with rfl | rfl | rfl <;> omega
  have hc := copy_any none 0 0 [] w Rd.none_ (by omega)
  have HC := Lib.hid (And.intro hc hk)
  clear hc hk
  go_enter Tryz.func50, Tryz.ntmps50
  go_wp2_with fail
  refine HC.out.1.mono ?_
  rintro e w1 ⟨A1, n1, c1, rfl, ho1, hb1⟩
  have hl1 : n1 = 0 := by
    obtain ⟨_, _, _, e, hr⟩ := ho1.rd
    injection e with e1 e2 e3
    rw [e2, ← hr.len]; rfl
  subst hl1
  have H1 := Lib.hid (And.intro ho1 hb1)
  clear ho1 hb1
  go_wp2_with fail
  refine (low_any x k w1 hx HC.out.2).mono ?_
  rintro e w2 ⟨A2, n2, c2, rfl, ho2, hb2⟩
  have hs1 := H1.out.2.size
  have hs2 := hb2.size
  obtain ⟨_, _, _, e2, hr2⟩ := ho2.rd
  injection e2 with e21 e22 e23
  subst e21 e22 e23
  have hn2 := hr2.len
  have H2 := Lib.hid (And.intro (H1.out.1.below hb2 (Nat.le_refl _)) (And.intro hr2 (And.intro hb2 hn2)))
  clear ho2 hb2 hr2 hn2
  go_wp2_with
    (at_builtin
     go_loud (refine wpList_app rfl (.tmp 10) (.tmp 13) rfl w.heap.size w1.heap.size _ [] rfl H2.out.1 (by omega) _ _ _ _ (Pe.leN k x) rfl H2.out.2.1.rds (by have := H2.out.2.2.2; rw [Pe.leN_len] at this; simp; omega) ?_)
     intro v3 w3 ho3 hg3 hat3 hb3)
  go_ret
  exact retOwn ho3 ((H1.out.2.trans (H2.out.2.2.1.mono hs1)).trans hb3)
namespace Pe
def putTo (b : List UInt8) (p : Nat) (l : List UInt8) (j : Nat) : List UInt8 := b.take p ++ l.take j ++ b.drop (p + j)
theorem putTo_zero (b : List UInt8) (p : Nat) (l : List UInt8) : putTo b p l 0 = b := by simp [putTo]
theorem putTo_len (b : List UInt8) (p : Nat) (l : List UInt8) (j : Nat) (h : p + j ≤ b.length) (hl : j ≤ l.length) : (putTo b p l j).length = b.length := by
  simp [putTo]; omega
theorem putTo_set (b : List UInt8) (p : Nat) (l : List UInt8) (j : Nat) (u : UInt8) (h : p + j < b.length) (hu : l[j]? = some u) : (putTo b p l j).set (p + j) u = putTo b p l (j + 1) := by
  have hl : j < l.length := (List.getElem?_eq_some_iff.1 hu).1
  have e1 : l.take (j + 1) = l.take j ++ [u] := take_snoc hu
  have e2 : b.drop (p + j) = b[p + j] :: b.drop (p + j + 1) := List.drop_eq_getElem_cons h
  unfold putTo
  rw [e1, e2, List.set_append_right _ _ (by simp; omega)]
  have e3 : p + j - (b.take p ++ l.take j).length = 0 := by simp; omega
  rw [e3, List.set_cons_zero, ← List.append_assoc, List.append_assoc (b.take p ++ l.take j)]
  rfl
end Pe
theorem OwnB.frozenAt {w : World} {lo hi g n cap : Nat} {xs : List UInt8} (h : OwnB w lo hi (.slice (some ⟨g, 0, none⟩) n cap) xs) (hn : xs.length = n) (j : Nat) : w.frozen? ⟨g, j, none⟩ = false := by
  subst hn
  exact h.1.frozenAt j
set_option maxHeartbeats 400000 in
/-- A number laid into a row of the call's own. -/
theorem lay_any (g n cap lo hi p x k : Nat) (q : Int) (xs : List UInt8) (w : World) (h : OwnB w lo hi (.slice (some ⟨g, 0, none⟩) n cap) xs) (hl : xs.length = n) (hn : n ≤ 1099511627776) (hq : q = (p : Int)) (hp : p + k ≤ n) (hx : x < 18446744073709551616) (hk : Pe.Size k) (hhi : hi ≤ w.heap.size) :
    Calls Tryz.prog 29 #[.slice (some ⟨g, 0, none⟩) n cap, .int .i64 q, .int .u64 (x : Int), .int .i64 (k : Int)] w fun e w' => e = .returned (.slice (some ⟨g, 0, none⟩) n cap) ∧ OwnB w' lo hi (.slice (some ⟨g, 0, none⟩) n cap) (Pe.putAt xs p x k) ∧ w.grownBy w' (some g) := by
  subst hq
  have hg := h.1.lt g rfl
  have hgh := h.2 g rfl
  have hk4 : k ≤ 4 := by rcases hk with rfl | rfl | rfl <;> omega
  have hk1 : 1 ≤ k := by rcases hk with rfl | rfl | rfl <;> omega
  have hpn := putn_any x k w hx hk
  have H := Lib.hid (And.intro h (And.intro hpn hl))
  clear h hpn hk hl
  go_enter Tryz.func29, Tryz.ntmps29
  go_wp2_with fail
  refine H.out.2.1.mono ?_
  rintro e w1 ⟨A1, n1, c1, rfl, ho1, hb1⟩
  obtain ⟨_, _, _, e1, hr1⟩ := ho1.rd
  injection e1 with e11 e12 e13
  subst e11 e12 e13
  have hn1 : k = n1 := by have := hr1.len; rw [Pe.leN_len] at this; exact this
  subst hn1
  obtain ⟨g1, cap1, e, _, _⟩ := ho1.1.form (by rw [Pe.leN_len]; omega)
  injection e with ea en ec
  subst ea ec
  clear en
  have hg1 := ho1.1.lt g1 rfl
  have hs1 := hb1.size
  have H1 := Lib.hid (And.intro ho1 hb1)
  have h1 := H.out.1.below hb1 hhi
  have h10 : OwnB w1 lo hi (.slice (some ⟨g, 0, none⟩) n cap) (Pe.putTo xs p (Pe.leN k x) 0) := by rw [Pe.putTo_zero]; exact h1
  have H2 := Lib.hid h10
  clear ho1 hb1 hr1 h1 h10
  go_wp2_with fail
  go_loopw [10] (fun i wr => ∃ j : Nat, j ≤ k ∧ i = .int .i64 (j : Int) ∧ OwnB wr lo hi (.slice (some ⟨g, 0, none⟩) n cap) (Pe.putTo xs p (Pe.leN k x) j) ∧ w1.grownBy wr (some g)) (fun i _ => k - (intOf i).toNat)
  case atStart => exact ⟨0, Nat.zero_le _, rfl, H2.out, ⟨rfl, rfl, rfl, Nat.le_refl _, fun _ _ _ => rfl⟩⟩
  case round =>
    obtain ⟨j, hj, rfl, ho, hgr⟩ := hrel
    by_cases hlt : j < k
    · have hlt' : (j : Int) < k := by omega
      have hlen := Pe.putTo_len xs p (Pe.leN k x) j (by have := H.out.2.2; omega) (by rw [Pe.leN_len]; omega)
      obtain ⟨u, hu, hcu⟩ := (H1.out.1.keep (w' := wr) fun k1 h3 h4 => hgr.block k1 h4 (fun e => by injection e with e; omega)).cellAt (Pe.leN_len k x) hlt
      obtain ⟨z, hz, hcz⟩ := ho.cellAt (hlen.trans H.out.2.2) (j := p + j) (by omega)
      have hfz := ho.frozenAt (hlen.trans H.out.2.2) (p + j)
      have hset := ho.stored (hlen.trans H.out.2.2) (p + j) u
      rw [Pe.putTo_set xs p _ j u (by have := H.out.2.2; omega) hu] at hset
      have hpj : ((p : Int) + (j : Int)).toNat = p + j := by omega
      have hpn' : (p : Int) + j < n := by omega
      have hp0 : (0 : Int) ≤ (p : Int) + j := by omega
      have HS := Lib.hid (And.intro hset hgr)
      clear ho hset hgr hlen hu hz
      go_wp2_with fail
      go_roundw
      case rel => exact ⟨j + 1, by omega, by go_num, HS.out.1, grownBy_store HS.out.2 _ _⟩
      case measure => simp [intOf]; omega
    · obtain rfl : j = k := by omega
      have hge : ¬ (j : Int) < j := by omega
      have HS := Lib.hid (And.intro ho hgr)
      clear ho hgr
      go_wp2
      go_ret
      refine ⟨rfl, ?_, ?_⟩
      · have := HS.out.1
        unfold Pe.putTo at this
        rw [show (Pe.leN j x).take j = Pe.leN j x from List.take_of_length_le (by rw [Pe.leN_len]; exact Nat.le_refl _)] at this
        exact this
      · have hgr := HS.out.2
        have hb1 := H1.out.2
        exact ⟨hgr.os.trans hb1.os, hgr.tape.trans hb1.tape, hgr.output.trans hb1.output, Nat.le_trans hs1 hgr.size, fun k hk hne => (hgr.block k (by omega) hne).trans (hb1.block k hk)⟩
end Go.Proofs.YtmpladnglfiejaaGreatDoor
end

section
/- The contract of lintelref16.Table. -/
namespace Go.Proofs.YtmpladnglfiejaaGreatDoor
open Go.RowKit
set_option maxRecDepth 100000
set_option linter.unusedVariables false
set_option linter.unusedSimpArgs false

theorem putn_q (x k : Nat) (q j : Int) (hq : q = (x : Int)) (hj : j = (k : Int)) (w : World) (hx : x < 18446744073709551616) (hk : Pe.Size k) :
    Calls Tryz.prog 50 #[.slice none 0 0, .int .u64 q, .int .i64 j] w (RetOwn (Pe.leN k x) w) := by
  subst hq hj
  exact putn_any x k w hx hk
namespace Pe
theorem sigRow_mod (b : List UInt8) : (sigRow b).length % 8 = 0 := by
  unfold sigRow padded pad
  simp only [List.length_append, List.length_replicate]
  omega
theorem pad_lt (n : Nat) : pad n < 8 := by unfold pad; omega
theorem pad_more (a n : Nat) (h : a % 8 = 0) : pad (a + n) = pad n := by unfold pad; omega
theorem sigRow_le (b : List UInt8) : (sigRow b).length ≤ b.length + 16 := by
  unfold sigRow padded
  have := pad_lt (leN 4 (8 + b.length) ++ [0, 2, 2, 0] ++ b).length
  simp only [List.length_append, List.length_replicate, leN_len, List.length_cons, List.length_nil] at this ⊢
  omega
theorem sigTable_snoc (l : List (List UInt8)) (b : List UInt8) : sigTable (l ++ [b]) = sigTable l ++ sigRow b := by simp [sigTable]
theorem sigTable_mod : ∀ (l : List (List UInt8)), (sigTable l).length % 8 = 0
  | [] => rfl
  | b :: l => by
    have h1 := sigRow_mod b
    have h2 := sigTable_mod l
    have e : sigTable (b :: l) = sigRow b ++ sigTable l := by simp [sigTable]
    rw [e, List.length_append]; omega
theorem sigTable_le {m : Nat} : ∀ (l : List (List UInt8)), (∀ b ∈ l, b.length ≤ m) → (sigTable l).length ≤ l.length * (m + 16)
  | [], _ => by simp [sigTable]
  | b :: l, h => by
    have h1 := sigTable_le l fun x hx => h x (by simp [hx])
    have h2 := sigRow_le b
    have h3 := h b (by simp)
    have e : sigTable (b :: l) = sigRow b ++ sigTable l := by simp [sigTable]
    rw [e, List.length_append, List.length_cons, Nat.succ_mul]; omega
end Pe
/-- Noughts up to a multiple of 8 behind a row of the call's own. -/
def PadRel (base : List UInt8) (w : World) (t : Nat) (v : Value) (wr : World) : Prop :=
  t ≤ Pe.pad base.length ∧ OwnB wr w.heap.size wr.heap.size v (base ++ List.replicate t 0) ∧ Below w.heap.size w wr ∧ ∃ A c, v = .slice A (base.length + t) c
theorem PadRel.mk {base : List UInt8} {w wr : World} {t : Nat} {v : Value} (h1 : t ≤ Pe.pad base.length) (h2 : OwnB wr w.heap.size wr.heap.size v (base ++ List.replicate t 0)) (h3 : Below w.heap.size w wr) : PadRel base w t v wr := by
  obtain ⟨A, n, c, rfl, hr⟩ := h2.rd
  have := hr.len
  rw [List.length_append, List.length_replicate] at this
  exact ⟨h1, h2, h3, A, c, by rw [this]⟩
def padLeft : Value → Nat
  | .slice _ n _ => Pe.pad n
  | _ => 0
theorem pad_end {n t : Nat} (h : t ≤ Pe.pad n) (hm : (n + t) % 8 = 0) : t = Pe.pad n := by unfold Pe.pad at *; omega
set_option maxHeartbeats 2000000 in
theorem table_any (A : Option Addr) (n c : Nat) (l : List (Value × List UInt8)) (w : World) (h : RdL w w.heap.size A n c l) (hn : n ≤ 1000) (hx : ∀ p ∈ l, p.2.length ≤ 100000) :
    Calls Tryz.prog 31 #[.slice A n c] w (RetOwn (Pe.sigTable (l.map (·.2))) w) := by
  have hl := h.len
  have H := Lib.hid (And.intro h (And.intro hx hl))
  clear h hx hl
  go_enter Tryz.func31, Tryz.ntmps31
  go_wp2
  go_loopw [3, 4] (fun v i wr => ∃ k : Nat, k ≤ n ∧ i = .int .i64 (k : Int) ∧ OwnB wr w.heap.size wr.heap.size v (Pe.sigTable ((l.take k).map (·.2))) ∧ Below w.heap.size w wr) (fun _ i _ => n - (intOf i).toNat)
  case atStart => exact ⟨0, Nat.zero_le _, rfl, OwnB.nil_, Below.refl _ _⟩
  case round =>
    obtain ⟨k, hk, rfl, ho, hb⟩ := hrel
    by_cases hlt : k < n
    · have hlt' : (k : Int) < n := by omega
      obtain ⟨b0, o0, A', n', c', xs, rfl, hb0, hlk, hck0, hrd⟩ := H.out.1.get hlt
      have hck := (hb.cell (p := ⟨b0, o0 + k, none⟩) hb0).trans hck0
      have hsz := hb.size
      have hxl := hrd.len
      have hxb := H.out.2.1 _ (List.mem_of_getElem? hlk)
      have hn' : n' ≤ 100000 := by rw [← hxl]; exact hxb
      have htk : (l.take (k + 1)).map (·.2) = (l.take k).map (·.2) ++ [xs] := by rw [take_snoc hlk]; simp
      obtain ⟨acc, hacc⟩ : ∃ acc, Pe.sigTable ((l.take k).map (·.2)) = acc := ⟨_, rfl⟩
      have hacl : acc.length ≤ 1000 * 100016 := by
        rw [← hacc]
        refine Nat.le_trans (Pe.sigTable_le (m := 100000) _ fun b hb => ?_) (Nat.mul_le_mul_right _ ?_)
        · obtain ⟨p, hp, rfl⟩ := List.mem_map.1 hb
          exact H.out.2.1 p (List.mem_of_mem_take hp)
        · simp; omega
      have hacm : acc.length % 8 = 0 := by rw [← hacc]; exact Pe.sigTable_mod _
      rw [hacc] at ho
      have hpu := putn_q (8 + n') 4 ((8 : Int) + n') 4 (by omega) rfl wr (by omega) (.inr (.inr rfl))
      have hwr : IntKind.u64.wrap ((8 : Int) + n') = (8 : Int) + n' := by simp only [IntKind.wrap, IntKind.bits, IntKind.signed]; simp; omega
      have HS := Lib.hid (And.intro ho (And.intro hb (And.intro hrd (And.intro hpu (And.intro htk (And.intro hacc (And.intro hxl hacl)))))))
      clear ho hb hrd hpu htk hacc hlk hck0 hxl hxb hacl
      go_wp2_with fail
      refine HS.out.2.2.2.1.mono ?_
      rintro e w1 ⟨A1, n1, c1, rfl, ho1, hb1⟩
      obtain ⟨A2, n2, c2, e2, hr1⟩ := ho1.rd
      injection e2 with e21 e22 e23
      subst e21 e22 e23
      have hs1 := hb1.size
      have hn1 : n1 = 4 := by rw [← hr1.len, Pe.leN_len]
      have hckb := (hb1.cell (p := ⟨b0, o0 + k, none⟩) (by show b0 < wr.heap.size; omega)).trans hck
      have H1 := Lib.hid (And.intro (HS.out.1.below hb1 (Nat.le_refl _)) (And.intro hr1 (And.intro hb1 hn1)))
      clear ho1 hb1 hr1 hn1
      go_wp2_with
        (first
          | (at_builtin
             refine wpList_app rfl (.tmp 11) (.tmp 19) rfl w.heap.size wr.heap.size _ acc rfl H1.out.1 (by omega) _ _ _ _ (Pe.leN 4 (8 + n')) rfl H1.out.2.1.rds (by have := H1.out.2.2.2; have := HS.out.2.2.2.2.2.2.2; omega) ?_
             intro v2 w2 ho2 hg2 hat2 hb2
             have hs2 := hg2.size
             have hck2 := (hb2.cell (p := ⟨b0, o0 + k, none⟩) hb0).trans hckb
             have H2 := Lib.hid (And.intro ho2 hb2)
             clear ho2 hg2 hat2 hb2)
          | (at_builtin
             refine wpList_app rfl (.tmp 21) (.tmp 22) rfl w.heap.size w2.heap.size _ (acc ++ Pe.leN 4 (8 + n')) rfl (H2.out.1.alloc (Nat.le_refl _) _) (by simp; omega) _ _ 4 4 [0, 2, 2, 0] rfl (reads_block w2 5 [.int .u8 0, .int .u8 2, .int .u8 2, .int .u8 0] _ rfl) (by have := HS.out.2.2.2.2.2.2.2; rw [List.length_append, Pe.leN_len]; omega) ?_
             intro v3 w3 ho3 hg3 hat3 hb3
             have hs3 := hg3.size
             simp only [World.size_alloc] at hs3
             have hb3' : Below w.heap.size w2 w3 := ((Below.refl _ _).alloc (by omega) _).trans hb3
             have hck3 := (hb3'.cell (p := ⟨b0, o0 + k, none⟩) hb0).trans hck2
             have H3 := Lib.hid (And.intro ho3 hb3')
             clear ho3 hg3 hat3 hb3 hb3')
          | (at_builtin
             refine wpList_app rfl (.tmp 24) (.tmp 28) rfl w.heap.size w3.heap.size _ (acc ++ Pe.leN 4 (8 + n') ++ [0, 2, 2, 0]) rfl H3.out.1 (by omega) w.heap.size A' n' c' xs rfl (HS.out.2.2.1.below ((((HS.out.2.1).trans (H1.out.2.2.1.mono hsz)).trans H2.out.2).trans H3.out.2)).rds (by have := HS.out.2.2.2.2.2.2.2; simp only [List.length_append, Pe.leN_len, List.length_cons, List.length_nil]; omega) ?_
             intro v4 w4 ho4 hg4 hat4 hb4
             have hs4 := hg4.size
             have H4 := Lib.hid (And.intro ho4 hb4)
             clear ho4 hg4 hat4 hb4)
          | fail)
      obtain ⟨R, hR⟩ : ∃ R, acc ++ Pe.leN 4 (8 + n') ++ [0, 2, 2, 0] ++ xs = R := ⟨_, rfl⟩
      have hRl : R.length = acc.length + (8 + n') := by rw [← hR]; simp only [List.length_append, Pe.leN_len, List.length_cons, List.length_nil, HS.out.2.2.2.2.2.2.1]; omega
      have hRb : R.length ≤ 1000 * 100016 + 100016 := by have := HS.out.2.2.2.2.2.2.2; omega
      have hfin : R ++ List.replicate (Pe.pad R.length) 0 = Pe.sigTable ((l.take (k + 1)).map (·.2)) := by
        rw [HS.out.2.2.2.2.1, Pe.sigTable_snoc, HS.out.2.2.2.2.2.1, hRl, Pe.pad_more _ _ hacm, ← hR]
        unfold Pe.sigRow Pe.padded
        rw [HS.out.2.2.2.2.2.2.1]
        simp only [List.length_append, Pe.leN_len, List.length_cons, List.length_nil, HS.out.2.2.2.2.2.2.1, List.append_assoc]
        rw [show 4 + (0 + 1 + 1 + 1 + 1 + n') = 8 + n' by omega]
      have hb4 : Below w.heap.size w w4 := (((HS.out.2.1.trans (H1.out.2.2.1.mono hsz)).trans H2.out.2).trans H3.out.2).trans H4.out.2
      have hp0 : PadRel R w 0 v4 w4 := PadRel.mk (Nat.zero_le _) (by rw [← hR]; simpa using H4.out.1) hb4
      have HR := Lib.hid (And.intro hfin hp0)
      clear hfin hp0 hb4 hck hckb hck2 hck3 hwr hR hRl
      go_loopw [3] (fun v wq => ∃ t, PadRel R w t v wq) (fun v _ => padLeft v)
      case atStart => exact ⟨0, HR.out.2⟩
      case round =>
        obtain ⟨t, ht, ho5, hb5, A5, c5, rfl⟩ := hrel
        have hmod : Int.tmod ((R.length + t : Nat) : Int) 8 = (((R.length + t) % 8 : Nat) : Int) := rfl
        obtain ⟨m5, hm5⟩ : ∃ m5, R.length + t = m5 := ⟨_, rfl⟩
        obtain ⟨r8, hr8⟩ : ∃ r8, m5 % 8 = r8 := ⟨_, rfl⟩
        rw [hm5] at ho5 hmod ⊢
        rw [hr8] at hmod
        have H5 := Lib.hid (And.intro ho5 (And.intro hb5 (And.intro hm5 hr8)))
        clear ho5 hb5 hm5 hr8
        by_cases h8 : r8 = 0
        · subst h8
          have htp : t = Pe.pad R.length := pad_end ht (by rw [H5.out.2.2.1]; exact H5.out.2.2.2)
          have hf5 := H5.out.1
          rw [htp, HR.out.1] at hf5
          have HF := Lib.hid hf5
          clear htp hf5
          go_wp2
          go_roundw
          case rel => exact ⟨k + 1, by omega, by go_num, HF.out, H5.out.2.1⟩
          case measure => simp [intOf]; omega
        · have hne : ((r8 : Int) != 0) = true := by simp; omega
          have htl : t < Pe.pad R.length := by
            rcases Nat.lt_or_ge t (Pe.pad R.length) with h | h
            · exact h
            · exfalso
              have e1 := H5.out.2.2.1
              have e2 := H5.out.2.2.2
              have : t = Pe.pad R.length := by omega
              unfold Pe.pad at this
              omega
          have hml : m5 ≤ 1000 * 100016 + 100024 := by have := H5.out.2.2.1; have := Pe.pad_lt R.length; omega
          have HT := Lib.hid htl
          clear htl ht
          go_wp2_with
            (at_builtin
             refine wpList_app rfl (.tmp 34) (.tmp 35) rfl w.heap.size _ _ (R ++ List.replicate t 0) rfl (H5.out.1.alloc (Nat.le_refl _) _) (by have := H5.out.2.1.size; simp; omega) _ _ 1 1 [0] rfl (reads_block _ 5 [.int .u8 0] _ rfl) (by rw [List.length_append, List.length_replicate, H5.out.2.2.1]; omega) ?_
             intro v6 w6 ho6 hg6 hat6 hb6
             have hb6' := (H5.out.2.1.alloc H5.out.2.1.size (.cells #[.int .u8 0] 5)).trans hb6
             have H6 := Lib.hid (PadRel.mk (base := R) (t := t + 1) HT.out (by rw [List.replicate_succ', ← List.append_assoc]; exact ho6) hb6')
             clear ho6 hg6 hat6 hb6 hb6')
          go_roundw
          case rel => exact ⟨t + 1, H6.out⟩
          case measure =>
            obtain ⟨_, _, _, A7, c7, rfl⟩ := H6.out
            have e1 := H5.out.2.2.1
            have := HT.out
            have e3 := H5.out.2.2.2
            simp only [padLeft]
            unfold Pe.pad at this ⊢
            omega
    · obtain rfl : k = n := by omega
      have hge : ¬ (k : Int) < k := by omega
      rw [List.take_of_length_le (by rw [H.out.2.2]; exact Nat.le_refl _)] at ho
      have HS := Lib.hid (And.intro ho hb)
      clear ho hb
      go_wp2
      go_ret
      exact retOwn HS.out.1 HS.out.2
end Go.Proofs.YtmpladnglfiejaaGreatDoor
end

section
/- A shape in memory. -/
namespace Go.Proofs.YtmpladnglfiejaaGreatDoor
open Go.RowKit
set_option maxRecDepth 100000
set_option linter.unusedVariables false
set_option linter.unusedSimpArgs false

/-- A slice of numbers that is read. -/
structure RdI (w : World) (B : Nat) (A : Option Addr) (n c : Nat) (l : List Int) : Prop where
  len : l.length = n
  cap : n ≤ c
  capm : c ≤ 9223372036854775807
  spot : c ≠ 0 → ∃ b o, A = some ⟨b, o, none⟩ ∧ b < B
  rds : Reads w B 1 A n (l.map (Value.int .i64))
section
variable {w w' : World} {B B' n c : Nat} {A : Option Addr} {l : List Int}
theorem RdI.keep (h : RdI w B A n c l) (hk : ∀ p : Addr, p.block < B → w'.cell? p = w.cell? p) : RdI w' B A n c l := ⟨h.len, h.cap, h.capm, h.spot, h.rds.keep hk⟩
theorem RdI.below (h : RdI w B A n c l) (hb : Below B w w') : RdI w' B A n c l := h.keep fun _ hp => hb.cell hp
theorem RdI.more (h : RdI w B A n c l) (hB : B ≤ B') : RdI w B' A n c l := ⟨h.len, h.cap, h.capm, fun hc => by obtain ⟨b, o, e, hb⟩ := h.spot hc; exact ⟨b, o, e, by omega⟩, h.rds.more hB⟩
theorem RdI.get (h : RdI w B A n c l) {k : Nat} (hk : k < n) : ∃ b o z, A = some ⟨b, o, none⟩ ∧ b < B ∧ l[k]? = some z ∧ w.cell? ⟨b, o + k, none⟩ = some (.int .i64 z) := by
  obtain ⟨b, o, rfl, hb⟩ := h.spot (by have := h.cap; omega)
  obtain ⟨ad, e, _, hc⟩ := h.rds.2 (by omega)
  injection e with e
  subst e
  have hx : l[k]? = some (l[k]'(by have := h.len; omega)) := List.getElem?_eq_getElem _
  have c1 := hc k (.int .i64 (l[k]'(by have := h.len; omega))) (by rw [List.getElem?_map, hx]; rfl)
  rw [Addr.add_lit] at c1
  exact ⟨b, o, _, rfl, hb, hx, c1⟩
end
/-- What the fields of a shape hold. -/
structure ShV where
  plus : Bool
  stub : Value
  fill : Value
  bodies : Value
  order : Value
  behind : Value
  sigs : Value
def ShV.cells (c : ShV) : Array Value := #[.bool c.plus, c.stub, c.fill, c.bodies, c.order, c.behind, c.sigs]
def ShV.val (c : ShV) : Value := .agg c.cells
def RdLV (w : World) (B : Nat) (v : Value) (xss : List (List UInt8)) : Prop := ∃ A n c l, v = .slice A n c ∧ RdL w B A n c l ∧ l.map (·.2) = xss
structure ShRd (w : World) (B : Nat) (V : ShV) (s : Pe.Shape) : Prop where
  plus : V.plus = s.plus
  stub : RdV w B V.stub s.stub
  fill : RdV w B V.fill s.fill
  bodies : RdLV w B V.bodies s.bodies
  order : ∃ A n c, V.order = .slice A n c ∧ RdI w B A n c s.order
  behind : RdV w B V.behind s.behind
  sigs : RdLV w B V.sigs s.sigs
theorem RdLV.keep {w w' : World} {B : Nat} {v : Value} {xss : List (List UInt8)} (h : RdLV w B v xss) (hk : ∀ p : Addr, p.block < B → w'.cell? p = w.cell? p) : RdLV w' B v xss := by
  obtain ⟨A, n, c, l, e, hr, hl⟩ := h
  exact ⟨A, n, c, l, e, hr.keep hk, hl⟩
theorem RdLV.more {w : World} {B B' : Nat} {v : Value} {xss : List (List UInt8)} (h : RdLV w B v xss) (hB : B ≤ B') : RdLV w B' v xss := by
  obtain ⟨A, n, c, l, e, hr, hl⟩ := h
  exact ⟨A, n, c, l, e, hr.more hB, hl⟩
theorem ShRd.keep {w w' : World} {B : Nat} {V : ShV} {s : Pe.Shape} (h : ShRd w B V s) (hk : ∀ p : Addr, p.block < B → w'.cell? p = w.cell? p) : ShRd w' B V s := by
  obtain ⟨A, n, c, e, hr⟩ := h.order
  exact ⟨h.plus, h.stub.keep hk, h.fill.keep hk, h.bodies.keep hk, ⟨A, n, c, e, hr.keep hk⟩, h.behind.keep hk, h.sigs.keep hk⟩
theorem ShRd.below {w w' : World} {B : Nat} {V : ShV} {s : Pe.Shape} (h : ShRd w B V s) (hb : Below B w w') : ShRd w' B V s := h.keep fun _ hp => hb.cell hp
theorem ShRd.more {w : World} {B B' : Nat} {V : ShV} {s : Pe.Shape} (h : ShRd w B V s) (hB : B ≤ B') : ShRd w B' V s := by
  obtain ⟨A, n, c, e, hr⟩ := h.order
  exact ⟨h.plus, h.stub.more hB, h.fill.more hB, h.bodies.more hB, ⟨A, n, c, e, hr.more hB⟩, h.behind.more hB, h.sigs.more hB⟩
theorem ShRd.one {w : World} {B : Nat} {V : ShV} {s : Pe.Shape} (h : ShRd w B V s) : ∀ v ∈ V.cells.toList, v.oneCell' = true := by
  obtain ⟨_, _, _, e1, _⟩ := h.stub
  obtain ⟨_, _, _, e2, _⟩ := h.fill
  obtain ⟨_, _, _, _, e3, _⟩ := h.bodies
  obtain ⟨_, _, _, e4, _⟩ := h.order
  obtain ⟨_, _, _, e5, _⟩ := h.behind
  obtain ⟨_, _, _, _, e6, _⟩ := h.sigs
  intro v hv
  simp only [ShV.cells, e1, e2, e3, e4, e5, e6, List.mem_cons, List.not_mem_nil, or_false] at hv
  rcases hv with rfl | rfl | rfl | rfl | rfl | rfl | rfl <;> rfl
abbrev Bs (w : World) (g : Nat) (V : ShV) : Prop := Blk w g 45 V.cells
theorem load_sh {w : World} {g : Nat} {V : ShV} (h : Bs w g V) : (loadVar 45 ⟨g, 0, none⟩).run Tryz.prog w = .ok V.val w := by
  have hk := h.cell
  exact run_loadVar_mid (P := Tryz.prog) w g 0 45 V.cells.toList _ (fun j v hv => by rw [Nat.zero_add, hk]; simpa using hv) Tryz.underlying45 rfl rfl
theorem wpList_load_sh {ops : Array Oper} {rest : List Oper} {op : Oper} {a : Act} {w : World} {Q : Exit → Act → World → Prop} (hgd : op.guard = none) (x : Operand) (ho : op.op = .load 45 x)
    (g : Nat) (C : ShV) (hx : a.eval x = .pointer (some ⟨g, 0, none⟩)) (hB : Bs w g C) (h : wpList Tryz.prog ops Q rest (a.put op.dst C.val) w) : wpList Tryz.prog ops Q (op :: rest) a w := by
  refine wpList_plain hgd fun K hK => ?_
  unfold Oper.wp execOp
  simp only [ho, hx, Instr.loadAt, Instr.sureAddr, Sem.run_bind, Sem.run_pure, Result.andThen_ok, load_sh hB]
  exact hK _ _ h
/-- Fits where the operation at hand loads a whole shape. -/
theorem at_load_sh {P : Program} {ops : Array Oper} {rest : List Oper} {d : Option Tmp} {ty : TypeId} {pos : String} {af : Array Edge} {g : Option (Nat × Bool)} {x : Operand} {a : Act} {w : World} {Q : Exit → Act → World → Prop}
    (h : wpList P ops Q ({ dst := d, op := .load 45 x, type := ty, pos := pos, after := af, guard := g } :: rest) a w) : wpList P ops Q ({ dst := d, op := .load 45 x, type := ty, pos := pos, after := af, guard := g } :: rest) a w := h
/-! ### order -/
namespace Pe
/-- The places in their order: those that are told, then all. -/
def seqI (n : Nat) (os : List Int) : List Int := os ++ (List.range n).map fun (k : Nat) => (k : Int)
theorem seqI_len (n : Nat) (os : List Int) : (seqI n os).length = os.length + n := by simp [seqI]
theorem places_append (n : Nat) (a b : List Int) : places n (a ++ b) = places n a ++ places n b := by simp [places]
theorem places_range (n m : Nat) (h : m ≤ n) : places n ((List.range m).map fun (k : Nat) => (k : Int)) = List.range m := by
  unfold places
  rw [List.filterMap_map]
  have : ∀ l : List Nat, (∀ k ∈ l, k < n) → l.filterMap ((fun (z : Int) => if 0 ≤ z ∧ z < (n : Int) then some z.toNat else none) ∘ fun (k : Nat) => (k : Int)) = l := by
    intro l
    induction l with
    | nil => intro _; rfl
    | cons x l ih =>
      intro h
      have hx := h x (by simp)
      rw [List.filterMap_cons]
      simp only [Function.comp_apply]
      rw [if_pos (by omega), ih fun k hk => h k (by simp [hk])]
      simp
  exact this _ fun k hk => by have := List.mem_range.1 hk; omega
theorem orderOf_seqI (n : Nat) (os : List Int) : orderOf n os = once [] (places n (seqI n os)) := by
  unfold orderOf seqI
  rw [places_append, places_range n n (Nat.le_refl _)]
theorem once_snoc : ∀ (l out : List Nat) (k : Nat), once out (l ++ [k]) = if k ∈ once out l then once out l else once out l ++ [k]
  | [], out, k => by
    by_cases h : k ∈ out
    · simp [once, h]
    · simp [once, h]
  | x :: l, out, k => by
    rw [List.cons_append, once, once]
    split
    · exact once_snoc l out k
    · exact once_snoc l _ k
/-- What is in order after so many. -/
def upto (n : Nat) (os : List Int) (i : Nat) : List Nat := once [] (places n ((seqI n os).take i))
theorem upto_succ {n : Nat} {os : List Int} {i : Nat} {z : Int} (h : (seqI n os)[i]? = some z) : upto n os (i + 1) = if 0 ≤ z ∧ z < (n : Int) then (if z.toNat ∈ upto n os i then upto n os i else upto n os i ++ [z.toNat]) else upto n os i := by
  unfold upto
  rw [take_snoc h, places_append]
  have e : places n [z] = if 0 ≤ z ∧ z < (n : Int) then [z.toNat] else [] := by
    unfold places
    rw [List.filterMap_cons, List.filterMap_nil]
    split <;> split <;> simp_all
  rw [e]
  split
  · exact once_snoc _ _ _
  · rw [List.append_nil]
theorem upto_len (n : Nat) (os : List Int) (i : Nat) : (upto n os i).length ≤ i := by
  have h1 : ∀ (l out : List Nat), (once out l).length ≤ out.length + l.length := by
    intro l
    induction l with
    | nil => intro out; simp [once]
    | cons x l ih =>
      intro out
      rw [once]
      split
      · have := ih out; simp; omega
      · have := ih (out ++ [x]); simp at this ⊢; omega
  have h2 := h1 (places n ((seqI n os).take i)) []
  have h3 : (places n ((seqI n os).take i)).length ≤ ((seqI n os).take i).length := List.length_filterMap_le _ _
  unfold upto
  simp at h2 h3 ⊢
  omega
theorem upto_lt (n : Nat) (os : List Int) (i : Nat) : ∀ k ∈ upto n os i, k < n := fun k hk => by
  unfold upto at hk
  rw [once_mem] at hk
  simp only [List.not_mem_nil, false_or] at hk
  unfold places at hk
  obtain ⟨z, _, hz⟩ := List.mem_filterMap.1 hk
  split at hz
  · injection hz with hz; omega
  · cases hz
end Pe
def seenC (n : Nat) (out : List Nat) : Array Value := ((List.range n).map fun j => Value.bool (decide (j ∈ out))).toArray
theorem seenC_get (n : Nat) (out : List Nat) {k : Nat} (hk : k < n) : (seenC n out)[k]? = some (.bool (decide (k ∈ out))) := by
  unfold seenC
  simp [hk]
theorem seenC_size (n : Nat) (out : List Nat) : (seenC n out).size = n := by simp [seenC]
theorem seenC_set (n : Nat) (out : List Nat) (k : Nat) : (seenC n out).setIfInBounds k (.bool true) = seenC n (out ++ [k]) := by
  apply Array.ext_getElem?
  intro i
  by_cases hi : i < n
  · rw [seenC_get _ _ hi]
    by_cases h : k = i
    · subst h
      rw [Array.getElem?_setIfInBounds_self_of_lt (by rw [seenC_size]; exact hi)]
      simp
    · rw [Array.getElem?_setIfInBounds_ne h, seenC_get _ _ hi]
      simp [show i ≠ k from fun e => h e.symm]
  · rw [Array.getElem?_eq_none (by simp [seenC_size]; omega), Array.getElem?_eq_none (by rw [seenC_size]; omega)]
theorem seenC_zero (n : Nat) : madeCells #[Value.bool false] (n * 1) = seenC n [] := by
  unfold madeCells seenC
  apply Array.ext
  · simp
  · intro i h1 h2
    simp [Nat.mod_one]
theorem bool_info : (Tryz.prog.info? 4).map (fun i => (i.zero, i.size, i.bytes)) = some (some (.bool false), 1, 1) := by kernel_rfl
theorem run_makeBool (n : Nat) (hn : n ≤ 1099511627776) (w : World) :
    (Instr.makeSlice 98 (.int .i64 (n : Int)) (.int .i64 (n : Int))).run Tryz.prog w = .ok (.slice (some ⟨w.heap.size, 0, none⟩) n n) (w.alloc (.cells (seenC n []) 4)) := by
  obtain ⟨i0, hi0, hz0, hz1, hz2⟩ := info_parts bool_info
  have hr := run_make (P := Tryz.prog) w 98 4 i0 _ Tryz.underlying98 hi0 hz0 .i64 .i64 n n (by omega) (by omega) (by rw [hz2]; omega) (by omega)
  simp only [Int.toNat_natCast, hz1] at hr
  rw [hr]
  rw [show (Value.bool false).cells = #[Value.bool false] from rfl, seenC_zero]
theorem int_info : (Tryz.prog.info? 3).map (fun i => (i.zero, i.size, i.bytes)) = some (some (.int .i64 0), 1, 8) := by kernel_rfl
def natV (k : Nat) : Value := .int .i64 (k : Int)
/-- What order answers. -/
def OrderPost (l : List Nat) (w : World) (e : Ending) (w' : World) : Prop :=
  ∃ A n c, e = .returned (.slice A n c) ∧ OwnC 3 1 w' w.heap.size w'.heap.size (.slice A n c) n (l.map natV) ∧ Below w.heap.size w w'
end Go.Proofs.YtmpladnglfiejaaGreatDoor
end

section
/- The contract of lintelref16.order. -/
namespace Go.Proofs.YtmpladnglfiejaaGreatDoor
open Go.RowKit
set_option maxRecDepth 100000
set_option linter.unusedVariables false
set_option linter.unusedSimpArgs false

structure OrdI (w : World) (V : ShV) (n : Nat) (os : List Int) (j : Nat) (v : Value) (wr : World) : Prop where
  own : OwnC 3 1 wr (w.heap.size + 2) wr.heap.size v (Pe.upto n os j).length ((Pe.upto n os j).map natV)
  sh : Bs wr w.heap.size V
  seen : Blk wr (w.heap.size + 1) 4 (seenC n (Pe.upto n os j))
  below : Below w.heap.size w wr
set_option maxHeartbeats 2000000 in
theorem order_any (V : ShV) (s : Pe.Shape) (w : World) (h : ShRd w w.heap.size V s) (h1 : 1 ≤ s.bodies.length) (hb : s.bodies.length ≤ 1000) (ho : s.order.length ≤ 1000) :
    Calls Tryz.prog 30 #[.agg V.cells] w (OrderPost (Pe.orderOf s.bodies.length s.order) w) := by
  obtain ⟨A3, n, c3, l3, e3, hr3, hl3⟩ := h.bodies
  obtain ⟨A4, m, c4, e4, hr4⟩ := h.order
  have hn : s.bodies.length = n := by rw [← hl3, List.length_map]; exact hr3.len
  have hm : s.order.length = m := hr4.len
  obtain ⟨os, hos⟩ : ∃ os, s.order = os := ⟨_, rfl⟩
  rw [hos] at hm hr4 ho
  rw [hn] at h1 hb
  rw [hn, hos]
  have hmb : m ≤ 1000 := by omega
  have hB1 : Bs (w.alloc (.cells V.cells 45)) w.heap.size V := Blk.new _ _ _
  have k3 : (w.alloc (.cells V.cells 45)).cell? ⟨w.heap.size, 3, none⟩ = some (.slice A3 n c3) := by rw [← e3]; exact hB1.cell 3
  have k4 : (w.alloc (.cells V.cells 45)).cell? ⟨w.heap.size, 4, none⟩ = some (.slice A4 m c4) := by rw [← e4]; exact hB1.cell 4
  have hmk := run_makeBool n (by omega) (w.alloc (.cells V.cells 45))
  rw [World.size_alloc] at hmk
  have hn1 := Blk.new (w.alloc (.cells V.cells 45)) 4 (seenC n [])
  rw [World.size_alloc] at hn1
  have hI0 : OrdI w V n os 0 (.slice none 0 0) ((w.alloc (.cells V.cells 45)).alloc (.cells (seenC n []) 4)) := ⟨OwnC.nil_, hB1.alloc _, hn1, by (repeat (first | exact Below.refl _ _ | assumption | (refine Below.setCell ?_ (by first | omega | (simp; done) | (simp; omega)) _) | (refine Below.alloc ?_ (by first | omega | (simp; done) | (simp; omega)) _) | (refine below_drewN ?_ _) | (refine Below.drew ?_)))⟩
  have H := Lib.hid (And.intro hr4 (And.intro hm (And.intro hI0 (And.intro e3 e4))))
  clear h hr3 hl3 hr4 hos hn hm e3 e4 hB1 hn1 hI0
  go_enter Tryz.func30, Tryz.ntmps30
  go_wp2_with fail
  go_loopw [3, 5] (fun v i wr => ∃ j : Nat, j ≤ m + n ∧ i = .int .i64 (j : Int) ∧ OrdI w V n os j v wr) (fun _ i _ => m + n - (intOf i).toNat)
  case atStart => exact ⟨0, Nat.zero_le _, rfl, H.out.2.2.1⟩
  case round =>
    obtain ⟨j, hj, rfl, hI⟩ := hrel
    have q3 : wr.cell? ⟨w.heap.size, 3, none⟩ = some (.slice A3 n c3) := by rw [← H.out.2.2.2.1]; exact hI.sh.cell 3
    have q4 : wr.cell? ⟨w.heap.size, 4, none⟩ = some (.slice A4 m c4) := by rw [← H.out.2.2.2.2]; exact hI.sh.cell 4
    clear k3 k4 hmk
    by_cases hlt : j < m + n
    · have hlt' : (j : Int) < (m : Int) + n := by omega
      obtain ⟨z, hz⟩ : ∃ z, (Pe.seqI n os)[j]? = some z := ⟨_, List.getElem?_eq_getElem (by rw [Pe.seqI_len, H.out.2.1]; exact hlt)⟩
      have HI := Lib.hid (And.intro hI hz)
      clear hI hz
      go_upto_region 6 with fail
      go_cut [6] from 11 to 59 (fun s6 wx => s6 = Value.int .i64 ((j : Int) - (m : Int)) ∧ wx = wr)
      case first =>
        go_wp2_with fail
        go_meet
        exact ⟨rfl, rfl⟩
      obtain ⟨rfl, rfl⟩ := hcut
      apply_assumption
      refine wp_seq_k fun K hK => ?_
      go_cut [6] from 11 to 59 (fun s6 wx => s6 = Value.int .i64 z ∧ wx = wc)
      case first =>
        have hzz := HI.out.2
        unfold Pe.seqI at hzz
        by_cases hjm : j < m
        · have hjm' : (j : Int) < m := by omega
          obtain ⟨b4, o4, z4, rfl, hb4, hz4, hc4⟩ := H.out.1.get hjm
          rw [List.getElem?_append_left (by rw [H.out.2.1]; exact hjm), hz4] at hzz
          injection hzz with hzz
          have hc4' := (HI.out.1.below.cell (p := ⟨b4, o4 + j, none⟩) hb4).trans hc4
          subst hzz
          clear hz4 hc4
          go_wp2_with fail
          go_meet
          exact ⟨rfl, rfl⟩
        · have hjm' : ¬ (j : Int) < m := by omega
          rw [List.getElem?_append_right (by rw [H.out.2.1]; omega), H.out.2.1, List.getElem?_map, List.getElem?_range (by omega)] at hzz
          injection hzz with hzz
          have HZ := Lib.hid hzz
          clear hzz
          go_wp2_with fail
          go_meet
          refine ⟨?_, rfl⟩
          rw [← HZ.out]
          congr 1
          omega
      obtain ⟨rfl, rfl⟩ := hcut
      have hup := Pe.upto_succ HI.out.2
      obtain ⟨out, hout⟩ : ∃ out, Pe.upto n os j = out := ⟨_, rfl⟩
      have hol : out.length ≤ 2000 := by rw [← hout]; exact Nat.le_trans (Pe.upto_len n os j) (by omega)
      obtain ⟨ow, sh, se, be⟩ := HI.out.1
      rw [hout] at hup ow se
      have hgo : ∀ v W, OwnC 3 1 W (w.heap.size + 2) W.heap.size v (Pe.upto n os (j + 1)).length ((Pe.upto n os (j + 1)).map natV) → Bs W w.heap.size V → Blk W (w.heap.size + 1) 4 (seenC n (Pe.upto n os (j + 1))) → Below w.heap.size w W → OrdI w V n os (j + 1) v W := fun v W h1 h2 h3 h4 => ⟨h1, h2, h3, h4⟩
      have HG := Lib.hid hgo
      clear hgo
      by_cases z0 : 0 ≤ z
      · obtain ⟨k, rfl⟩ : ∃ k : Nat, z = (k : Int) := ⟨z.toNat, by omega⟩
        by_cases z1 : (k : Int) < n
        · rw [if_pos ⟨z0, z1⟩, Int.toNat_natCast] at hup
          have hck : wc.cell? ⟨w.heap.size + 1, k, none⟩ = some (.bool (decide (k ∈ out))) := by rw [se.cell k]; exact seenC_get n out (by omega)
          have hfk := se.frozen k
          obtain ⟨b, hb⟩ : ∃ b, decide (k ∈ out) = b := ⟨_, rfl⟩
          rw [hb] at hck
          cases b
          · have hnk : ¬ k ∈ out := of_decide_eq_false hb
            rw [if_neg hnk] at hup
            have hwl := be.size
            have hsl := se.lt
            have HS := Lib.hid (And.intro hup (And.intro ow (And.intro sh (And.intro se be))))
            clear hup ow sh se be hb hnk hout
            go_wp2_with
              (at_builtin
               refine wpList_appC rfl (.tmp 53) (.tmp 55) 43 rfl 3 _ 1 8 int_info Tryz.underlying43 rfl (by omega) (w.heap.size + 2) wc.heap.size _ out.length (out.map natV) rfl (HS.out.2.1.alloc (Nat.le_refl _) _) (by simp; omega) _ _ 1 1 [.int .i64 (k : Int)] rfl (Reads.one wc 3 _) (by simp [Value.oneCell']) (by omega) (by omega) ?_
               intro v6 w6 ho6 hg6 hat6 hb6
               have hs6 := hg6.size
               have hck6 : w6.cell? ⟨w.heap.size + 1, k, none⟩ = some (.bool false) := (hb6.cell (p := ⟨w.heap.size + 1, k, none⟩) (by show w.heap.size + 1 < w.heap.size + 2; omega)).trans ((World.cell?_alloc_lt _ _ _ (by show w.heap.size + 1 < wc.heap.size; omega)).trans hck)
               have hse6 : Blk w6 (w.heap.size + 1) 4 (seenC n out) := (HS.out.2.2.2.1.alloc _).below hb6 (by omega)
               have hfk6 := hse6.frozen k
               have hsh6 : Bs w6 w.heap.size V := (HS.out.2.2.1.alloc _).below hb6 (by omega)
               have hbe6 : Below w.heap.size w w6 := (HS.out.2.2.2.2.alloc HS.out.2.2.2.2.size (.cells #[.int .i64 (k : Int)] 3)).trans (hb6.mono (by omega))
               have H6 := Lib.hid (And.intro ho6 (And.intro hse6 (And.intro hsh6 hbe6)))
               clear ho6 hg6 hat6 hb6 hse6 hsh6 hbe6)
            go_roundw
            case rel =>
              refine ⟨j + 1, by omega, by go_num, HG.out _ _ ?_ (H6.out.2.2.1.far (by simp) _) ?_ (H6.out.2.2.2.setCell (by simp) _)⟩
              · rw [HS.out.1, List.length_append, List.map_append]
                exact (H6.out.1.setCell (.inl (by show w.heap.size + 1 < w.heap.size + 2; omega)) _).mono (Nat.le_refl _) (by simp)
              · rw [HS.out.1, ← seenC_set]
                exact H6.out.2.1.set_ k (.bool true)
            case measure => simp [intOf]; omega
          · have hnk : k ∈ out := of_decide_eq_true hb
            rw [if_pos hnk] at hup
            clear hnk hb
            have HS := Lib.hid (And.intro hup (And.intro ow (And.intro sh (And.intro se be))))
            clear hup ow sh se be hout
            go_wp2
            go_roundw
            case rel => exact ⟨j + 1, by omega, by go_num, HG.out _ _ (by rw [HS.out.1]; exact HS.out.2.1) HS.out.2.2.1 (by rw [HS.out.1]; exact HS.out.2.2.2.1) HS.out.2.2.2.2⟩
            case measure => simp [intOf]; omega
        · rw [if_neg (fun h => z1 (by omega))] at hup
          have HS := Lib.hid (And.intro hup (And.intro ow (And.intro sh (And.intro se be))))
          clear hup ow sh se be hout
          go_wp2
          go_roundw
          case rel => exact ⟨j + 1, by omega, by go_num, HG.out _ _ (by rw [HS.out.1]; exact HS.out.2.1) HS.out.2.2.1 (by rw [HS.out.1]; exact HS.out.2.2.2.1) HS.out.2.2.2.2⟩
          case measure => simp [intOf]; omega
      · rw [if_neg (fun h => z0 h.1)] at hup
        have HS := Lib.hid (And.intro hup (And.intro ow (And.intro sh (And.intro se be))))
        clear hup ow sh se be hout
        go_wp2
        go_roundw
        case rel => exact ⟨j + 1, by omega, by go_num, HG.out _ _ (by rw [HS.out.1]; exact HS.out.2.1) HS.out.2.2.1 (by rw [HS.out.1]; exact HS.out.2.2.2.1) HS.out.2.2.2.2⟩
        case measure => simp [intOf]; omega
    · have hjn : j = m + n := by omega
      have hge : ¬ (j : Int) < (m : Int) + n := by omega
      obtain ⟨ow, sh, se, be⟩ := hI
      have e : Pe.upto n os j = Pe.orderOf n os := by
        rw [Pe.orderOf_seqI]
        unfold Pe.upto
        rw [List.take_of_length_le (by rw [Pe.seqI_len, H.out.2.1]; omega)]
      rw [e] at ow
      obtain ⟨A9, c9, rfl, _⟩ := ow.shape
      have HS := Lib.hid (And.intro ow be)
      clear ow sh se be hjn
      go_wp2
      go_ret
      exact ⟨A9, _, c9, rfl, HS.out.1.mono (by omega) (Nat.le_refl _), HS.out.2⟩
end Go.Proofs.YtmpladnglfiejaaGreatDoor
end

section
/- The contract of lintelref16.Write. -/
namespace Go.Proofs.YtmpladnglfiejaaGreatDoor
open Go.RowKit
set_option maxRecDepth 100000
set_option linter.unusedVariables false
set_option linter.unusedSimpArgs false

/-- The cells of 'make([]byte, n)'. -/
def zeroB (n : Nat) : Array Value := ((List.replicate n (0 : UInt8)).map bv).toArray
theorem zeroB_eq (n : Nat) : madeCells #[Value.int .u8 0] (n * 1) = zeroB n := by
  unfold madeCells zeroB
  apply Array.ext
  · simp
  · intro i h1 h2
    simp [bv, Nat.mod_one]
theorem run_makeB (n : Nat) (hn : n ≤ 1099511627776) (w : World) :
    (Instr.makeSlice 22 (.int .i64 (n : Int)) (.int .i64 (n : Int))).run Tryz.prog w = .ok (.slice (some ⟨w.heap.size, 0, none⟩) n n) (w.alloc (.cells (zeroB n) 5)) := by
  obtain ⟨i0, hi0, hz0, hz1, hz2⟩ := info_parts u8_info
  have hr := run_make (P := Tryz.prog) w 22 5 i0 _ Tryz.underlying22 hi0 hz0 .i64 .i64 n n (by omega) (by omega) (by rw [hz2]; omega) (by omega)
  simp only [Int.toNat_natCast, hz1] at hr
  rw [hr]
  rw [show (Value.int .u8 0).cells = #[Value.int .u8 0] from rfl, zeroB_eq]
/-- While an image is made: its bytes so far, in a row of the call's own. -/
structure WI (W0 : World) (b : Value) (xs : List UInt8) (wr : World) : Prop where
  own : OwnB wr W0.heap.size wr.heap.size b xs
  below : Below W0.heap.size W0 wr
theorem WI.form {W0 wr : World} {b : Value} {xs : List UInt8} (h : WI W0 b xs wr) (hx : 0 < xs.length) : ∃ g cap, b = .slice (some ⟨g, 0, none⟩) xs.length cap := by
  obtain ⟨A, n, c, e, hr⟩ := h.own.rd
  have hn := hr.len
  obtain ⟨g, cap, e2, _, _⟩ := h.own.1.form hx
  exact ⟨g, cap, e2⟩
theorem WI.len {W0 wr : World} {A : Option Addr} {n c : Nat} {xs : List UInt8} (h : WI W0 (.slice A n c) xs wr) : xs.length = n := by
  obtain ⟨A', n', c', e, hr⟩ := h.own.rd
  injection e with e1 e2 e3
  rw [e2]; exact hr.len
theorem WI.later {W0 wr w' : World} {b : Value} {xs : List UInt8} (h : WI W0 b xs wr) (hb : Below wr.heap.size wr w') : WI W0 b xs w' :=
  ⟨(h.own.below hb (Nat.le_refl _)).mono (Nat.le_refl _) hb.size, h.below.trans (hb.mono h.below.size)⟩
theorem WI.lay {W0 wr : World} {g n cap p x k : Nat} {q y j : Int} {xs : List UInt8} (h : WI W0 (.slice (some ⟨g, 0, none⟩) n cap) xs wr) (hn : n ≤ 1099511627776) (hq : q = (p : Int)) (hy : y = (x : Int)) (hj : j = (k : Int)) (hp : p + k ≤ n) (hx : x < 18446744073709551616) (hk : Pe.Size k) :
    Calls Tryz.prog 29 #[.slice (some ⟨g, 0, none⟩) n cap, .int .i64 q, .int .u64 y, .int .i64 j] wr fun e w' => e = .returned (.slice (some ⟨g, 0, none⟩) n cap) ∧ WI W0 (.slice (some ⟨g, 0, none⟩) n cap) (Pe.putAt xs p x k) w' ∧ wr.grownBy w' (some g) := by
  subst hy hj
  refine (lay_any g n cap W0.heap.size wr.heap.size p x k q xs wr h.own h.len hn hq hp hx hk (Nat.le_refl _)).mono ?_
  rintro e w' ⟨rfl, ho, hg⟩
  exact ⟨rfl, ⟨ho.mono (Nat.le_refl _) hg.size, h.below.grown hg h.below.size (fun k e => by injection e with e; rw [← e]; exact (h.own.1.lt g rfl).1)⟩, hg⟩
theorem OwnC.keepCells2 {e : TypeId} {size n lo hi : Nat} {w w' : World} {v : Value} {cs : List Value} (h : OwnC e size w lo hi v n cs) (hk : ∀ (k : Nat) (cur : Array Value) (fr : Nat × Nat), lo ≤ k → k < hi → w.heap[k]? = some (.cells cur e fr) → w'.heap[k]? = w.heap[k]?) : OwnC e size w' lo hi v n cs := by
  refine ⟨⟨h.1.1, ?_⟩, h.2⟩
  rcases h.1.2 with h1 | ⟨g, cap, cur, rfl, hb, hg, hr⟩
  · exact .inl h1
  · exact .inr ⟨g, cap, cur, rfl, hb, (hk g cur _ hb (h.2 g rfl) hg).trans hg, hr⟩
/-- A row of other cells stays where a row of bytes is turned. -/
theorem OwnC.other {e : TypeId} {size n lo hi : Nat} {w w' : World} {v : Value} {cs : List Value} (h : OwnC e size w lo hi v n cs) {lo' hi' : Nat} {b : Value} {xs : List UInt8} (hb : OwnB w lo' hi' b xs) {r : Option Nat} (hg : w.grownBy w' r) (hr : ∀ k, r = some k → b.ownBlock = some k) (hne : e ≠ 5) : OwnC e size w' lo hi v n cs := by
  refine h.keepCells2 fun k cur fr h1 h2 h3 => hg.block k (Array.getElem?_eq_some_iff.1 h3).1 (fun e' => ?_)
  have hbk := hr k e'.symm
  rcases hb.1.2 with ⟨e1, _⟩ | ⟨g0, cap, cur0, e1, _, hg0, _⟩
  · rw [e1] at hbk; simp [Value.ownBlock] at hbk
  · rw [e1] at hbk
    simp [Value.ownBlock] at hbk
    subst hbk
    rw [hg0] at h3
    injection h3 with h3
    injection h3 with h4 h5
    exact hne h5.symm
end Go.Proofs.YtmpladnglfiejaaGreatDoor
end

section
/- The contracts of bytes.HasPrefix, and of bytes.Trim of noughts. -/
namespace Go.Proofs.YtmpladnglfiejaaGreatDoor
open Go.RowKit
set_option maxRecDepth 100000
set_option linter.unusedVariables false
set_option linter.unusedSimpArgs false

theorem run_upto {w : World} {B n c : Nat} {A : Option Addr} {xs : List UInt8} (h : Rd w B A n c xs) (hi : Nat) (r : Int) (hr : r = hi) (h2 : hi ≤ n) :
    ∃ A1 c1, Rd w B A1 hi c1 (xs.take hi) ∧ (∀ W, (Instr.sliceAt 22 (.slice A n c) none (some (.int .i64 r)) none).run Tryz.prog W = .ok (.slice A1 hi c1) W) ∧
      ∀ W, (Instr.slice 22 (.slice A n c) none (some (.int .i64 r)) none).run Tryz.prog W = .ok (.slice A1 hi c1) W := by
  have hc := h.cap
  have hx := h.cut (Nat.zero_le hi) h2
  rw [List.drop_zero] at hx
  refine ⟨_, _, hx, fun W => ?_, fun W => ?_⟩ <;> subst hr <;> simp [go_sem, Tryz.underlying22, show (hi : Int) ≤ c by omega]
theorem equal_any (A A' : Option Addr) (n c n' c' : Nat) (xs ys : List UInt8) (B B' : Nat) (w : World) (h : Rd w B A n c xs) (h' : Rd w B' A' n' c' ys) :
    Calls Tryz.prog 71 #[.slice A n c, .slice A' n' c'] w fun e w' => e = .returned (.bool (eqB xs ys)) ∧ w' = w := by
  have k1 := run_string h 9 Tryz.underlying9
  have k2 := run_string h' 9 Tryz.underlying9
  clear h h'
  go_enter Tryz.func71, Tryz.ntmps71
  go_wp2
  go_ret
  exact ⟨rfl, rfl⟩
theorem hasPrefix_any (A A' : Option Addr) (n c n' c' : Nat) (xs ys : List UInt8) (B B' : Nat) (w : World) (h : Rd w B A n c xs) (h' : Rd w B' A' n' c' ys) :
    Calls Tryz.prog 53 #[.slice A n c, .slice A' n' c'] w fun e w' => e = .returned (.bool (eqB (xs.take ys.length) ys)) ∧ w' = w := by
  have hl := h.len
  have hl' := h'.len
  by_cases hn : n' ≤ n
  · have hn' : (n' : Int) ≤ n := by omega
    obtain ⟨A1, c1, hr1, hcut1, hcut⟩ := run_upto h n' n' rfl hn
    have he := equal_any A1 A' n' c1 n' c' _ _ _ _ w hr1 h'
    rw [← hl'] at he
    rw [hl'] at he
    have HE := Lib.hid he
    clear he hr1 h h'
    rw [hl']
    go_enter Tryz.func53, Tryz.ntmps53
    go_wp2_with fail
    refine HE.out.mono ?_
    rintro e w1 ⟨rfl, rfl⟩
    go_wp2
    go_ret
    exact ⟨rfl, rfl⟩
  · have hn' : ¬ (n' : Int) ≤ n := by omega
    have e : eqB (xs.take ys.length) ys = false := by
      unfold eqB
      rw [beq_eq_false_iff_ne]
      intro e
      have := congrArg List.length e
      simp at this
      omega
    rw [e]
    clear e h h'
    go_enter Tryz.func53, Tryz.ntmps53
    go_wp2
    go_ret
    exact ⟨rfl, rfl⟩
/-- All noughts? -/
def noughts (xs : List UInt8) : Bool := xs.all (· == 0)
def TrimR (B : Nat) (xs : List UInt8) (w : World) (e : Ending) (w' : World) : Prop := ∃ A' n' c' ys, e = .returned (.slice A' n' c') ∧ Rd w B A' n' c' ys ∧ noughts ys = noughts xs ∧ w' = w
def TrimL (xs : List UInt8) (w : World) (e : Ending) (w' : World) : Prop := ∃ A' n' c', e = .returned (.slice A' n' c') ∧ (decide (n' = 0)) = noughts xs ∧ w' = w
def TrimA (xs : List UInt8) (w : World) (e : Ending) (w' : World) : Prop := ∃ A' n' c', e = .returned (.slice A' n' c') ∧ (decide (n' = 0)) = noughts xs ∧ Below w.heap.size w w'
theorem noughts_snoc (xs : List UInt8) : noughts (xs ++ [0]) = noughts xs := by simp [noughts]
theorem noughts_cons (xs : List UInt8) : noughts (0 :: xs) = noughts xs := by simp [noughts]
set_option maxHeartbeats 400000 in
theorem trimRight_any (A : Option Addr) (n c : Nat) (xs : List UInt8) (B : Nat) (w : World) (h : Rd w B A n c xs) :
    Calls Tryz.prog 92 #[.slice A n c, .int .u8 0] w (TrimR B xs w) := by
  have H := Lib.hid h
  clear h
  go_enter Tryz.func92, Tryz.ntmps92
  go_wp2
  go_loop [0] (fun v => ∃ A' n' c' ys, v = .slice A' n' c' ∧ Rd w B A' n' c' ys ∧ noughts ys = noughts xs) (fun v => match v with | .slice _ m _ => m | _ => 0)
  case atStart => exact ⟨A, n, c, xs, rfl, H.out, rfl⟩
  case round =>
    obtain ⟨A', n', c', ys, rfl, hr, ht⟩ := hrel
    have hl := hr.len
    by_cases h0 : n' = 0
    · subst h0
      have HX := Lib.hid (And.intro ht hr)
      clear hr ht hl
      go_wp2
      go_ret
      exact ⟨_, _, _, ys, rfl, HX.out.2, HX.out.1, rfl⟩
    · have hpos : 0 < n' := by omega
      have hpos' : (0 : Int) < n' := by omega
      obtain ⟨b, o, rfl, hb, hcell⟩ := hr.at_ hpos
      have hr0 : n' ≤ 9223372036854775807 := Nat.le_trans hr.cap hr.capm
      obtain ⟨y, hy⟩ : ∃ y, ys[n' - 1]? = some y := ⟨ys[n' - 1]'(by omega), List.getElem?_eq_getElem _⟩
      have hc0 := hcell (n' - 1) y hy
      by_cases hy0 : y = 0
      · subst hy0
        have hr1 := hr.upto (n' - 1) (by omega)
        have hcle : ((n' - 1 : Nat) : Int) ≤ c' := by have := hr.cap; omega
        have e : ys = ys.take (n' - 1) ++ [0] := by
          have := List.take_add_one (l := ys) (i := n' - 1)
          rw [hy, show n' - 1 + 1 = n' by omega, List.take_of_length_le (by omega)] at this
          exact this
        have hn2 : noughts (ys.take (n' - 1)) = noughts ys := by conv => rhs; rw [e, noughts_snoc]
        have hc00 : w.cell? ⟨b, o + (n' - 1), none⟩ = some (.int .u8 0) := hc0
        have HX := Lib.hid (And.intro ht (And.intro hr1 hn2))
        have hcm := hr0
        have hw64 : wrap64 ((n' : Int) - 1) = ((n' - 1 : Nat) : Int) := by rw [IntWalk.wrap64_in _ (by omega)]; omega
        have hlt1 : ((n' - 1 : Nat) : Int) < n' := by omega
        clear ht hr hl hcell e hn2 hr1 hy hc0
        go_wp2
        go_round
        case rel => exact ⟨_, _, _, _, rfl, HX.out.2.1, HX.out.2.2.trans HX.out.1⟩
        case measure => simp; omega
      · have hne : ((y.toNat : Int) == 0) = false := by
          have : y.toNat ≠ 0 := fun e => hy0 (UInt8.toNat_inj.1 e)
          simp; omega
        have HX := Lib.hid (And.intro ht hr)
        have hcm := hr0
        have hw64 : wrap64 ((n' : Int) - 1) = ((n' - 1 : Nat) : Int) := by rw [IntWalk.wrap64_in _ (by omega)]; omega
        have hlt1 : ((n' - 1 : Nat) : Int) < n' := by omega
        clear ht hr hl hcell hy
        go_wp2
        go_ret
        exact ⟨_, _, _, ys, rfl, HX.out.2, HX.out.1, rfl⟩
set_option maxHeartbeats 400000 in
theorem trimLeft_any (A : Option Addr) (n c : Nat) (xs : List UInt8) (B : Nat) (w : World) (h : Rd w B A n c xs) :
    Calls Tryz.prog 91 #[.slice A n c, .int .u8 0] w (TrimL xs w) := by
  have H := Lib.hid h
  clear h
  go_enter Tryz.func91, Tryz.ntmps91
  go_wp2
  go_loop [0] (fun v => ∃ A' n' c' ys, v = .slice A' n' c' ∧ Rd w B A' n' c' ys ∧ noughts ys = noughts xs) (fun v => match v with | .slice _ m _ => m | _ => 0)
  case atStart => exact ⟨A, n, c, xs, rfl, H.out, rfl⟩
  case round =>
    obtain ⟨A', n', c', ys, rfl, hr, ht⟩ := hrel
    have hl := hr.len
    rcases ys with _ | ⟨y, ys⟩
    · obtain rfl : n' = 0 := by simpa using hl.symm
      have HX := Lib.hid ht
      clear hr ht hl
      go_wp2
      go_ret
      exact ⟨none, 0, 0, rfl, by rw [← HX.out]; rfl, rfl⟩
    · have hpos : 0 < n' := by simp at hl; omega
      have hpos' : (0 : Int) < n' := by omega
      obtain ⟨b, o, rfl, hb, hcell⟩ := hr.at_ hpos
      have hc0 := hcell 0 y rfl
      rw [Nat.add_zero] at hc0
      by_cases hy : y = 0
      · subst hy
        obtain ⟨A1, hr1, _, hcut⟩ := run_cut_lo hr 1 1 rfl (by omega)
        have hc00 : w.cell? ⟨b, o, none⟩ = some (.int .u8 0) := hc0
        have HX := Lib.hid (And.intro hr1 ht)
        clear hr ht hl hcell hc0 hr1
        go_wp2
        go_round
        case rel => exact ⟨A1, _, _, ys, rfl, by simpa using HX.out.1, by rw [← HX.out.2, noughts_cons]⟩
        case measure => simp; omega
      · have hne : ((y.toNat : Int) == 0) = false := by
          have : y.toNat ≠ 0 := fun e => hy (UInt8.toNat_inj.1 e)
          simp; omega
        have hn0 : ((n' : Int) == 0) = false := by simp; omega
        have hno : noughts (y :: ys) = false := by
          have : (y == 0) = false := by simpa using hy
          simp [noughts, this]
        have HX := Lib.hid (And.intro hno ht)
        clear hr ht hl hcell hy hno
        go_wp2
        go_ret
        exact ⟨_, _, _, rfl, by rw [← HX.out.2, HX.out.1]; simp; omega, rfl⟩
set_option maxHeartbeats 1000000 in
theorem trim_any (A : Option Addr) (n c : Nat) (xs : List UInt8) (w : World) (h : Rd w w.heap.size A n c xs) :
    Calls Tryz.prog 75 #[.slice A n c, .string ⟨#[0]⟩] w (TrimA xs w) := by
  have hl := h.len
  by_cases h0 : n = 0
  · subst h0
    have e : noughts xs = true := by rw [List.eq_nil_of_length_eq_zero hl]; rfl
    have HE := Lib.hid e
    clear e h hl
    go_enter Tryz.func75, Tryz.ntmps75
    go_wp2
    go_ret
    exact ⟨none, 0, 0, rfl, by rw [HE.out]; rfl, Below.refl _ _⟩
  · have hn0 : ((n : Int) == 0) = false := by simp; omega
    have H := Lib.hid h
    clear h hl
    go_enter Tryz.func75, Tryz.ntmps75
    go_upto_region 6 with fail
    go_region_held3 (fun w' => True) (trivial)
      (first
        | (go_at_call 92; (show Calls Tryz.prog 92 #[.slice A n c, .int .u8 0] _ _); ((with_reducible refine (trimRight_any A n c xs w.heap.size _ (by exact H.out.keep fun _ _ => rfl)).mono ?_); rintro e w1 ⟨A1, n1, c1, ys1, rfl, hr1, hn1, rfl⟩))
        | (go_at_call 91; (show Calls Tryz.prog 91 #[.slice A1 n1 c1, .int .u8 0] _ _); ((with_reducible refine (trimLeft_any A1 n1 c1 ys1 w.heap.size _ (by exact hr1.keep fun _ _ => rfl)).mono ?_); rintro e w2 ⟨A2, n2, c2, rfl, hn2, rfl⟩)))
    all_goals (go_wp2; go_ret; exact ⟨_, _, _, rfl, hn2.trans hn1, by (repeat (first | exact Below.refl _ _ | assumption | (refine Below.setCell ?_ (by first | omega | (simp; done) | (simp; omega)) _) | (refine Below.alloc ?_ (by first | omega | (simp; done) | (simp; omega)) _) | (refine below_drewN ?_ _) | (refine Below.drew ?_)))⟩)
end Go.Proofs.YtmpladnglfiejaaGreatDoor
end

section
/- The contracts of the reader's steps. -/
namespace Go.Proofs.YtmpladnglfiejaaGreatDoor
open Go.RowKit
set_option maxRecDepth 100000
set_option linter.unusedVariables false
set_option linter.unusedSimpArgs false

/-- A step of the reader at block g: its flag is f now; nothing else that was there has turned. -/
structure Stp (g : Nat) (s : Value) (f : Bool) (w w' : World) : Prop where
  blk : Blk w' g 70 #[s, .bool f]
  grown : w.grownBy w' (some g)
theorem Stp.trans {g : Nat} {s : Value} {f f' : Bool} {w w' w'' : World} (h : Stp g s f w w') (h' : Stp g s f' w' w'') : Stp g s f' w w'' := ⟨h'.blk, h.grown.trans h'.grown⟩
theorem grownBy_of_below {g : Nat} {w w' : World} (h : Below w.heap.size w w') : w.grownBy w' (some g) := ⟨h.os, h.tape, h.output, h.size, fun k hk _ => h.block k hk⟩
theorem grownBy_set (W : World) (p : Addr) (v : Value) : W.grownBy (W.setCell p v) (some p.block) :=
  ⟨rfl, rfl, rfl, by simp, fun k _ hk => Below.heap_setCell _ _ _ k (fun e => hk (by rw [e]))⟩
theorem must_any (g : Nat) (s : Value) (f ok : Bool) (w : World) (h : Blk w g 70 #[s, .bool f]) (hs : ∃ A n c, s = .slice A n c) :
    Calls Tryz.prog 52 #[.pointer (some ⟨g, 0, none⟩), .bool ok] w fun e w' => e = .returned (.tuple #[]) ∧ Stp g s (f && ok) w w' := by
  obtain ⟨A, n, c, rfl⟩ := hs
  obtain ⟨hc, hf⟩ := h.facts
  have h1 : w.cell? ⟨g, 1, none⟩ = some (.bool f) := hc 1
  have hfz := hf 1
  have hset := h.set_ 1 (.bool (f && ok))
  have HS := Lib.hid (And.intro hset (grownBy_set w ⟨g, 1, none⟩ (.bool (f && ok))))
  clear h hc hf hset
  cases f
  · go_enter Tryz.func52, Tryz.ntmps52
    go_wp2
    go_end0
    exact ⟨rfl, by simpa using HS.out.1, by simpa using HS.out.2⟩
  · go_enter Tryz.func52, Tryz.ntmps52
    go_wp2
    go_end0
    exact ⟨rfl, by simpa using HS.out.1, by simpa using HS.out.2⟩
theorem at_any (g : Nat) (A : Option Addr) (n c : Nat) (xs : List UInt8) (f : Bool) (p k : Nat) (w : World) (h : Blk w g 70 #[.slice A n c, .bool f]) (hr : Rd w g A n c xs) (hn : n ≤ 1099511627776) (hp : p ≤ 1099511627776) (hk : Pe.Size k) :
    Calls Tryz.prog 51 #[.pointer (some ⟨g, 0, none⟩), .int .i64 (p : Int), .int .i64 (k : Int)] w fun e w' => e = .returned (.int .i64 (Pe.at_ xs p k : Int)) ∧ Stp g (.slice A n c) (f && Pe.inb xs p k) w w' := by
  obtain ⟨hc, hf⟩ := h.facts
  have h0 : w.cell? ⟨g, 0, none⟩ = some (.slice A n c) := hc 0
  have hlt := h.lt
  have hl := hr.len
  have hg := Get_any A n c xs p k w (hr.more (by omega)) hn hp hk
  have hal : Pe.at_ xs p k < 4294967296 := by
    have := Pe.at_lt xs p k
    rcases hk with rfl | rfl | rfl <;> omega
  have hw : IntKind.i64.wrap (Pe.at_ xs p k : Int) = (Pe.at_ xs p k : Int) := by rw [IntKind.wrap_i64]; omega
  have her : (Pe.er xs p k == 0) = Pe.inb xs p k := by unfold Pe.er; split <;> simp [*]
  obtain ⟨a, ha⟩ : ∃ a, Pe.at_ xs p k = a := ⟨_, rfl⟩
  obtain ⟨er, he⟩ : ∃ er, Pe.er xs p k = er := ⟨_, rfl⟩
  obtain ⟨i, hi⟩ : ∃ i, Pe.inb xs p k = i := ⟨_, rfl⟩
  unfold GetPost at hg
  rw [ha, he] at hg
  rw [ha] at hw ⊢
  rw [he, hi] at her
  rw [hi]
  have HG := Lib.hid (And.intro hg h)
  clear hc hf h hg ha he hi hr hal
  go_enter Tryz.func51, Tryz.ntmps51
  go_wp2_with fail
  refine HG.out.1.mono ?_
  rintro e w1 ⟨rfl, hb⟩
  have hB := HG.out.2.below hb hlt
  have HM := Lib.hid (And.intro (must_any g (.slice A n c) f i w1 hB ⟨_, _, _, rfl⟩) hb)
  clear hB hb h0
  go_wp2_with fail
  refine HM.out.1.mono ?_
  rintro e w2 ⟨rfl, hS⟩
  have HS := Lib.hid hS
  clear hS
  go_wp2
  go_ret
  exact ⟨rfl, HS.out.blk, (grownBy_of_below HM.out.2).trans HS.out.grown⟩
theorem at_at (g : Nat) (A : Option Addr) (n c : Nat) (xs : List UInt8) (f : Bool) (p k : Nat) (q : Int) (w : World) (hq : q = (p : Int)) (h : Blk w g 70 #[.slice A n c, .bool f]) (hr : Rd w g A n c xs) (hn : n ≤ 1099511627776) (hp : p ≤ 1099511627776) (hk : Pe.Size k) (j : Int) (hj : j = (k : Int)) :
    Calls Tryz.prog 51 #[.pointer (some ⟨g, 0, none⟩), .int .i64 q, .int .i64 j] w fun e w' => e = .returned (.int .i64 (Pe.at_ xs p k : Int)) ∧ Stp g (.slice A n c) (f && Pe.inb xs p k) w w' := by
  subst hq hj
  exact at_any g A n c xs f p k w h hr hn hp hk
/-- A number rounded up to a multiple of 8, as the program does it. -/
theorem up_num (n : Nat) (hn : n < 1099511627776) : bits .andNot .i64 ((n : Int) + 7) 7 = ((Pe.up n : Nat) : Int) := by
  have h7 : ∀ i, i < 64 → (7#64).getLsbD i = decide (i < 3) := by decide
  have key : ∀ x : BitVec 64, x &&& ~~~(7#64) = (x >>> 3) <<< 3 := fun x => by
    apply BitVec.eq_of_getLsbD_eq
    intro i hi
    rw [BitVec.getLsbD_and, BitVec.getLsbD_not, h7 i hi, BitVec.getLsbD_shiftLeft, BitVec.getLsbD_ushiftRight]
    by_cases h3 : i < 3
    · simp [h3]
    · simp [h3, hi, show 3 + (i - 3) = i by omega]
  have hx : (BitVec.ofInt 64 ((n : Int) + 7)).toNat = n + 7 := by
    rw [show (n : Int) + 7 = ((n + 7 : Nat) : Int) from rfl]; exact ofInt_i64 _ (by omega)
  show IntKind.i64.wrap ((BitVec.ofInt 64 ((n : Int) + 7) &&& ~~~(BitVec.ofInt 64 7)).toNat : Int) = _
  rw [show BitVec.ofInt 64 7 = 7#64 from rfl, key, BitVec.toNat_shiftLeft, BitVec.toNat_ushiftRight, hx, Nat.shiftRight_eq_div_pow, Nat.shiftLeft_eq]
  have e : (n + 7) / 2 ^ 3 * 2 ^ 3 % 2 ^ 64 = Pe.up n := by
    unfold Pe.up
    show (n + 7) / 8 * 8 % 18446744073709551616 = _
    omega
  rw [e, IntKind.wrap_i64]
  unfold Pe.up
  omega
theorem up_any (n : Nat) (w : World) (hn : n ≤ 4294967296) : Calls Tryz.prog 74 #[.int .i64 (n : Int)] w fun e w' => e = .returned (.int .i64 (Pe.up n : Int)) ∧ w' = w := by
  have hu := up_num n (by omega)
  go_enter Tryz.func74, Tryz.ntmps74
  go_wp2
  go_ret
  exact ⟨rfl, rfl⟩
end Go.Proofs.YtmpladnglfiejaaGreatDoor
end

section
/- Small laws of worlds that grow by one block. -/
namespace Go.Proofs.YtmpladnglfiejaaGreatDoor
open Go.RowKit
set_option maxRecDepth 100000
set_option linter.unusedVariables false
set_option linter.unusedSimpArgs false

theorem grown_on {w W W' : World} {g : Nat} {r : Option Nat} (h : w.grownBy W (some g)) (h' : W.grownBy W' r) (hr : ∀ j, r = some j → w.heap.size ≤ j ∨ j = g) : w.grownBy W' (some g) :=
  ⟨h'.os.trans h.os, h'.tape.trans h.tape, h'.output.trans h.output, Nat.le_trans h.size h'.size, fun k hk hne => (h'.block k (Nat.lt_of_lt_of_le hk h.size) (fun e => by
    rcases hr k e.symm with h1 | h1
    · omega
    · exact hne (by rw [h1]))).trans (h.block k hk hne)⟩
theorem grown_refl (w : World) (r : Option Nat) : w.grownBy w r := ⟨rfl, rfl, rfl, Nat.le_refl _, fun _ _ _ => rfl⟩
theorem grown_below {w W W' : World} {g : Nat} (h : w.grownBy W (some g)) (hb : Below W.heap.size W W') : w.grownBy W' (some g) := grown_on h ⟨hb.os, hb.tape, hb.output, hb.size, fun k hk _ => hb.block k hk⟩ (r := none) (fun j e => by cases e)
theorem own_grown {e : TypeId} {size n lo hi g : Nat} {w W : World} {v : Value} {cs : List Value} (h : OwnC e size w lo hi v n cs) (hg : w.grownBy W (some g)) (hlo : g < lo) (hhi : hi ≤ w.heap.size) : OwnC e size W lo hi v n cs :=
  h.keep fun k h1 h2 => hg.block k (by omega) (fun e => by injection e with e; omega)
theorem rd_grown {w W : World} {B n c g : Nat} {A : Option Addr} {xs : List UInt8} (h : Rd w B A n c xs) (hg : w.grownBy W (some g)) (hB : B ≤ g) (hgl : g < w.heap.size) : Rd W B A n c xs :=
  h.grown hg (by omega) (fun j e => by injection e with e; omega)
theorem int_beq (a b : Nat) : ((a : Int) == (b : Int)) = (a == b) := by
  rw [Bool.eq_iff_iff, beq_iff_eq, beq_iff_eq]; omega
end Go.Proofs.YtmpladnglfiejaaGreatDoor
end
