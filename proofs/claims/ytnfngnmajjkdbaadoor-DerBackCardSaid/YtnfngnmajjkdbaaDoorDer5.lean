/- The contracts of the length guard, of slices.Grow of nothing, of der's callers. -/
import Derived.Test.YtnfngnmajjkdbaaDoorProg
import Derived.Test.YtnfngnmajjkdbaaDoorMem
import Derived.Test.YtnfngnmajjkdbaaDoorMem2
import Derived.Test.YtnfngnmajjkdbaaDoorNum
import Derived.Test.YtnfngnmajjkdbaaDoorBase
import Derived.Lib.AppendZeros
namespace Go.Proofs.YtnfngnmajjkdbaaDoor
open Go.RowKit
set_option maxRecDepth 100000

theorem large_any (A : Option Addr) (n c : Nat) (w : World) :
    Calls Tryd.prog 4 #[.slice A n c] w fun e w' => e = .returned (.bool (decide ((8192 : Int) < n))) ∧ w' = w := by
  go_enter Tryd.func4, Tryd.ntmps4
  go_wp2
  go_ret
  exact ⟨rfl, rfl⟩

theorem grow_zero (w : World) :
    Calls Tryd.prog 32 #[.slice none 0 0, .int .i64 0] w (RetOwn [] w) := by
  go_enter Tryd.func32, Tryd.ntmps32
  go_wp2
  go_ret
  exact retOwn OwnB.nil_ (Below.refl _ _)

theorem grow_some (k : Nat) (w : World) (h0 : 0 < k) (hk : k ≤ 35184372088832) :
    Calls Tryd.prog 32 #[.slice none 0 0, .int .i64 (k : Int)] w (RetOwn [] w) := by
  obtain ⟨i0, hi0, hz0, hz1, hz2⟩ := info_parts u8_info
  have hrun := Lib.run_append_nil_zeros (P := Tryd.prog) w 22 3 22 5 i0 _ .i64 .i64 Tryd.underlying22 Tryd.underlying3 hi0 hz0 k h0 (by omega) (by omega) (by rw [hz2]; omega)
  have hge := grownCap_ge w k 0 5
  have hle := grownCap_le_maxLen w k 0 5 (by simp only [maxLen]; omega)
  have hown : OwnB (w.drew.alloc (.cells (Builtin.zeroCells (Value.int .u8 0).cells k ++ Builtin.zeroCells (Value.int .u8 0).cells (grownCap w k 0 5 - k)) 5)) w.heap.size (w.heap.size + 1) (.slice (some ⟨w.heap.size, 0, none⟩) 0 (grownCap w k 0 5)) [] :=
    ⟨⟨rfl, .inr ⟨w.heap.size, _, _, rfl, Nat.le_refl _, heap_alloc_new w.drew _, Nat.zero_le _, hle, by simp [size_zeroCells, Value.cells]; omega, rfl⟩⟩, fun k hk => by simp [Value.ownBlock] at hk; omega⟩
  have hb : Below w.heap.size w (w.drew.alloc (.cells (Builtin.zeroCells (Value.int .u8 0).cells k ++ Builtin.zeroCells (Value.int .u8 0).cells (grownCap w k 0 5 - k)) 5)) := (Below.refl _ _).drew.alloc (Nat.le_refl _) _
  generalize hG : grownCap w k 0 5 = G at hrun hown hb hge hle
  generalize hC : Builtin.zeroCells (Value.int .u8 0).cells k ++ Builtin.zeroCells (Value.int .u8 0).cells (G - k) = C at hrun hown hb
  have HG := Lib.hid (And.intro hG (And.intro hC (And.intro hown hb)))
  have h0' : (0 : Int) < k := by omega
  have HR := Lib.hid hrun
  clear hG hC hown hb hi0 hz0 hz1 hz2 hrun
  go_enter Tryd.func32, Tryd.ntmps32
  go_wp2_with (at_builtin; refine wpList_append_run rfl (.tmp 20) (.tmp 21) 22 3 rfl _ _ _ rfl rfl HR.out ?_)
  go_ret
  exact retOwn (HG.out.2.2.1.mono (Nat.le_refl _) (by simp)) HG.out.2.2.2

theorem grow_any (k : Nat) (w : World) (hk : k ≤ 35184372088832) :
    Calls Tryd.prog 32 #[.slice none 0 0, .int .i64 (k : Int)] w (RetOwn [] w) := by
  rcases Nat.eq_zero_or_pos k with h | h
  · subst h; exact grow_zero w
  · exact grow_some k w h hk
end Go.Proofs.YtnfngnmajjkdbaaDoor
