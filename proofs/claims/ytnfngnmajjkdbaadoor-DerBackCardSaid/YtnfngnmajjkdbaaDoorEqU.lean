/- The contract of lintellaw10.eq at the same numbers. -/
import Derived.Test.YtnfngnmajjkdbaaDoorPut2
import Derived.BigQuiet
import Derived.Deep.QuietTactic
namespace Go.Proofs.YtnfngnmajjkdbaaDoor
open Go.RowKit
set_option maxRecDepth 100000
set_option linter.unusedVariables false
set_option linter.unusedSimpArgs false

set_option maxHeartbeats 1000000 in
theorem eqU_same (A A' : Option Addr) (n c n' c' : Nat) (zs : List Nat) (w : World) (h : RdU w w.heap.size A n c zs) (h' : RdU w w.heap.size A' n' c' zs) (hn : n ≤ 1099511627776) :
    Calls Tryd.prog 14 #[.slice A n c, .slice A' n' c'] w fun e w' => e = .returned (.bool true) ∧ Below w.heap.size w w' := by
  obtain rfl : n' = n := by rw [← h.len, ← h'.len]
  have hne : ((n' : Int) != n') = false := by simp
  have H := Lib.hid (And.intro h h')
  clear h h'
  go_enter Tryd.func14, Tryd.ntmps14
  go_wp2
  go_loopw [5] (fun i wr => ∃ k : Nat, k ≤ n' ∧ i = .int .i64 k ∧ Below w.heap.size w wr) (fun i _ => n' - (intOf i).toNat)
  case atStart => exact ⟨0, Nat.zero_le _, rfl, Below.refl _ _⟩
  case round =>
    obtain ⟨k, hk, rfl, hb⟩ := hrel
    by_cases hlt : k < n'
    · have hlt' : (k : Int) < n' := by omega
      obtain ⟨b, o, z, rfl, hbl, hz, _, hc0⟩ := H.out.1.get hlt
      obtain ⟨b', o', z', rfl, hbl', hz', _, hc0'⟩ := H.out.2.get hlt
      obtain rfl : z' = z := by rw [hz] at hz'; injection hz' with e; exact e.symm
      have hc : wr.cell? ⟨b, o + k, none⟩ = some (.int .u64 (z' : Int)) := (hb.cell (p := ⟨b, o + k, none⟩) hbl).trans hc0
      have hc' : wr.cell? ⟨b', o' + k, none⟩ = some (.int .u64 (z' : Int)) := (hb.cell (p := ⟨b', o' + k, none⟩) hbl').trans hc0'
      have hze : ((z' : Int) != z') = false := by simp
      have HB := Lib.hid hb
      clear hz hz' hc0 hc0' hb
      go_wp2
      go_quiet (fail)
      go_wp2
      go_roundw
      case rel => exact ⟨k + 1, by omega, by go_num, below_drewN HB.out _⟩
      case measure => simp [intOf]; omega
    · obtain rfl : n' = k := by omega
      have hge : ¬ (n' : Int) < n' := by omega
      go_wp2
      go_ret
      exact ⟨rfl, hb⟩
end Go.Proofs.YtnfngnmajjkdbaaDoor
