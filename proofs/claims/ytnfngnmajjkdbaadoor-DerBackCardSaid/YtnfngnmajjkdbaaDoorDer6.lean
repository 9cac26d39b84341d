/- The contracts of slices.Concat and der.Join. -/
import Derived.Test.YtnfngnmajjkdbaaDoorProg
import Derived.Test.YtnfngnmajjkdbaaDoorMem
import Derived.Test.YtnfngnmajjkdbaaDoorMem2
import Derived.Test.YtnfngnmajjkdbaaDoorNum
import Derived.Test.YtnfngnmajjkdbaaDoorBase
import Derived.Test.YtnfngnmajjkdbaaDoorLit
import Derived.Test.YtnfngnmajjkdbaaDoorDer5
namespace Go.Proofs.YtnfngnmajjkdbaaDoor
open Go.RowKit
set_option maxRecDepth 100000


set_option maxHeartbeats 1000000 in
theorem concat_any (A : Option Addr) (n c : Nat) (l : List (Value × List UInt8)) (w : World) (h : RdL w w.heap.size A n c l) (hn : n ≤ 1099511627776) (ht : (cat l).length ≤ 1099511627776) :
    Calls Tryd.prog 23 #[.slice A n c] w (RetOwn (cat l) w) := by
  have hl := h.len
  go_enter Tryd.func23, Tryd.ntmps23
  go_wp2
  go_loop [3, 11] (fun t i => ∃ k : Nat, k ≤ n ∧ i = .int .i64 k ∧ t = .int .i64 ((cat (l.take k)).length : Int)) (fun _ i => n - (intOf i).toNat)
  case atStart => exact ⟨0, Nat.zero_le _, rfl, rfl⟩
  case round =>
    obtain ⟨k, hk, rfl, rfl⟩ := hrel
    have hck := cat_take_le l k
    by_cases hlt : k < n
    · obtain ⟨b, o, A', n', c', xs, rfl, hb, hx, hc, hr⟩ := h.get hlt
      have hxs := hr.len
      have hs := cat_take_succ hx
      have hc2 := cat_take_le l (k + 1)
      rw [hs, List.length_append, hxs] at hc2
      have HS := Lib.hid (And.intro hs hxs)
      have hlt' : (k : Int) < n := by omega
      have hpos : (0 : Int) ≤ ((cat (l.take k)).length : Int) + n' := by omega
      clear hs hxs hl hx
      go_wp2
      go_round
      case rel => exact ⟨k + 1, by omega, by go_num, by rw [HS.out.1, List.length_append, HS.out.2]; go_num⟩
      case measure => simp [intOf]; omega
    · obtain rfl : k = n := by omega
      have htk : l.take k = l := by rw [List.take_of_length_le (by omega)]
      have HT := Lib.hid htk
      clear hck
      go_wp2_with fail
      clear htk hl
      refine (grow_any (cat l).length _ (by omega)).mono ?_
      rintro e w1 ⟨A1, n1, c1, rfl, ho1, hb1⟩
      have hrel0 : CatRel l w 0 (.slice A1 n1 c1) w1 := ⟨by simpa [cat] using ho1, hb1⟩
      clear ho1 hb1
      go_wp2
      go_loopw [6, 27] (fun v i wr => ∃ j : Nat, j ≤ k ∧ i = .int .i64 j ∧ CatRel l w j v wr) (fun _ i _ => k - (intOf i).toNat)
      case atStart => exact ⟨0, by omega, rfl, hrel0⟩
      case round =>
        obtain ⟨j, hj, rfl, ho, hb⟩ := hrel
        by_cases hlt : j < k
        · have hu := h.up hb
          obtain ⟨b, o, A', n', c', xs, rfl, hbb, hx, hc, hr⟩ := hu.get hlt
          have hs := cat_take_succ hx
          have hc2 := cat_take_le l (j + 1)
          have hxs := hr.len
          rw [hs, List.length_append, hxs] at hc2
          have HS := Lib.hid hs
          have HO := Lib.hid ho
          have hlt' : (j : Int) < k := by omega
          have hsz := hb.size
          have hrr := hr.rds
          clear hs hxs hx ho hr hu
          go_wp2_with
            (at_builtin
             refine wpList_app rfl (.tmp 31) (.tmp 32) rfl w.heap.size wr.heap.size _ (cat (l.take j)) rfl HO.out (by omega) _ A' n' c' xs rfl hrr (by omega) ?_
             intro v2 w2 ho2 hg2 hat2 hb2)
          go_roundw
          case rel => exact ⟨j + 1, by omega, by go_num, by rw [HS.out]; exact ho2, hb.trans hb2⟩
          case measure => simp [intOf]; omega
        · obtain rfl : j = k := by omega
          have HO := Lib.hid ho
          have hge : ¬ (j : Int) < j := by omega
          clear ho
          go_wp2
          go_ret
          exact retOwn (by have := HO.out; rw [HT.out] at this; exact this) hb

theorem join_any (A : Option Addr) (n c : Nat) (l : List (Value × List UInt8)) (w : World) (h : RdL w w.heap.size A n c l) (hn : n ≤ 1099511627776) (ht : (cat l).length ≤ 1099511627776) :
    Calls Tryd.prog 8 #[.slice A n c] w (RetOwn (cat l) w) := by
  go_enter Tryd.func8, Tryd.ntmps8
  go_wp2_with fail
  refine (concat_any A n c l w h hn ht).mono ?_
  rintro e w1 ⟨A1, n1, c1, rfl, ho1, hb1⟩
  go_wp2
  go_ret
  exact retOwn ho1 hb1

end Go.Proofs.YtnfngnmajjkdbaaDoor
