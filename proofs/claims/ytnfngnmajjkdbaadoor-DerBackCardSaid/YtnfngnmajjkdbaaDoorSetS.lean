/- slices.Values of a slice of slices; slices.AppendSeq onto nil of what comes from there; slices.Collect. -/
import Derived.Test.YtnfngnmajjkdbaaDoorProg
import Derived.Test.YtnfngnmajjkdbaaDoorMem
import Derived.Test.YtnfngnmajjkdbaaDoorMem2
import Derived.Test.YtnfngnmajjkdbaaDoorNum
import Derived.Test.YtnfngnmajjkdbaaDoorBase
import Derived.RangeFuncGives
import Derived.RangeFuncBox
import Derived.RangeFuncLeaves
import Derived.Maps.AppendAt
import Derived.Shelf.Abstract
import Derived.WalkKit
import Derived.OwnWalkIn
import Derived.TacticsInMore
import Derived.LoopNIn
import Derived.LoopIn
namespace Go.Proofs.YtnfngnmajjkdbaaDoor
open Go.RowKit Go.Shelf
attribute [local go_sem] Oper.semAt_some
set_option maxRecDepth 100000

/-- The values of the parts. -/
def vals (l : List (Value × List UInt8)) : List Value := l.map (·.1)
theorem vals_len (l : List (Value × List UInt8)) : (vals l).length = l.length := by simp [vals]
theorem vals_take {l : List (Value × List UInt8)} {k : Nat} {v : Value} {xs : List UInt8} (h : l[k]? = some (v, xs)) : (vals l).take (k + 1) = (vals l).take k ++ [v] := by
  rw [List.take_add_one]
  simp [vals, h]

set_option maxHeartbeats 2000000 in
/-- slices.Values's closure: the parts come in their order. -/
theorem values1_in (n : Nat) (hn : 1 ≤ n) (l Bn n₀ : Nat) (w₀ : World) (A : Option Addr) (m c : Nat) (L : List (Value × List UInt8)) (hr : RdL w₀ n₀ A m c L) (hm : m ≤ 1099511627776) (J : List Value → World → Prop)
    (hJb : ∀ s X, J s X → Below n₀ w₀ X)
    (hY : ∀ pre v W, J pre W → pre.length < m → (∃ A' m' c', v = .slice A' m' c') → YieldAt Fence.wide (n - 1) Tryd.prog l #[v] W fun e W' => e = .returned (.bool true) ∧ J (pre ++ [v]) W')
    (W : World) (hW : W.cell? ⟨Bn, 0, none⟩ = some (.slice A m c)) (h0 : J [] W) :
    CallsIn Fence.wide n Tryd.prog 41 #[.func (.yield l) #[] #[], .pointer (some ⟨Bn, 0, none⟩)] W fun e W' => (∃ v, e = .returned v) ∧ J (vals L) W' := by
  refine callsIn_of_wp Tryd.func41 rfl trivial ?_ rfl
  simp only [Tryd.ntmps41, List.size_toArray, List.length_cons, List.length_nil, Nat.reduceAdd, Nat.reduceSub, Array.replicate_succ, Array.replicate_zero, List.push_toArray, List.append_toArray, List.nil_append, List.cons_append]
  have hlen := hr.len
  gi_wp2
  gi_loopw [7] (fun i wr => ∃ k : Nat, k ≤ m ∧ i = .int .i64 k ∧ J ((vals L).take k) wr)
    (fun i _ => m - (intOf i).toNat)
  case atStart => exact ⟨0, Nat.zero_le _, rfl, by simpa using h0⟩
  case round =>
    obtain ⟨k, hk, rfl, hJs⟩ := hrel
    by_cases hlt : k < m
    · obtain ⟨b, o, A', m', c', xs, rfl, hb, hx, hc0, hrd⟩ := hr.get hlt
      have hc := ((hJb _ _ hJs).cell (p := ⟨b, o + k, none⟩) hb).trans hc0
      obtain ⟨fn, tmps, assign, body, hy, hR⟩ := hY _ (.slice A' m' c') wr hJs (by rw [List.length_take, vals_len]; omega) ⟨_, _, _, rfl⟩
      have ht := vals_take hx
      have hlt' : (k : Int) < m := by omega
      have HT := Lib.hid (And.intro ht (And.intro hx (And.intro hc0 hrd)))
      have HJ := Lib.hid (And.intro hJs (And.intro hY hJb))
      clear ht hx hc0 hrd hJs hY hJb hr h0 hW
      gi_wp2
      refine hR.mono ?_
      rintro e W3 ⟨rfl, hJ3⟩
      gi_wp2
      go_roundw
      case rel => exact ⟨k + 1, by omega, by simp, by rw [HT.out.1]; exact hJ3⟩
      case measure => simp [intOf]; omega
    · obtain rfl : k = m := by omega
      gi_wp2
      go_end0
      exact ⟨⟨_, rfl⟩, by rwa [List.take_of_length_le (by rw [vals_len]; omega)] at hJs⟩
end Go.Proofs.YtnfngnmajjkdbaaDoor
