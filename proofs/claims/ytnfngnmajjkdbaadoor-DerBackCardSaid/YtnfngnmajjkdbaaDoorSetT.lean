/- slices.Values, der.Sets. -/
import Derived.Test.YtnfngnmajjkdbaaDoorSetQ
import Derived.Test.YtnfngnmajjkdbaaDoorDer6
import Derived.Test.YtnfngnmajjkdbaaDoorNum
namespace Go.Proofs.YtnfngnmajjkdbaaDoor
open Go.RowKit
set_option maxRecDepth 100000
set_option linter.unusedVariables false

theorem perm_cat {S L : List (Value × List UInt8)} (h : S.Perm L) : (cat S).length = (cat L).length := by
  unfold cat
  rw [List.length_flatten, List.length_flatten]
  exact ((h.map _).map _).sum_nat
/-- The parts of L in their order, one behind the other, in new memory. -/
def SetsPost (L : List (Value × List UInt8)) (w : World) (e : Ending) (w' : World) : Prop :=
  ∃ S : List (Value × List UInt8), S.Perm L ∧ Ord (S.map (·.2)) ∧ RetOwn (cat S) w e w'

theorem values_any (A : Option Addr) (n c : Nat) (w : World) :
    Calls Tryd.prog 29 #[.slice A n c] w fun e w' => e = .returned (.func (.func 41) #[] #[.pointer (some ⟨w.heap.size, 0, none⟩)]) ∧ w' = w.alloc (.cells #[.slice A n c] 46) := by
  go_enter Tryd.func29, Tryd.ntmps29
  go_wp2
  go_ret
  exact ⟨rfl, rfl⟩

set_option maxHeartbeats 1000000 in
theorem sets_any (A : Option Addr) (n c : Nat) (L : List (Value × List UInt8)) (w : World) (h : RdL w w.heap.size A n c L) (hn : n ≤ 1099511627) (ht : (cat L).length ≤ 1099511627776) :
    Calls Tryd.prog 17 #[.slice A n c] w (SetsPost L w) := by
  have hb0 : Below w.heap.size w (w.alloc (.cells #[.slice A n c] 46)) := (Below.refl _ _).alloc (Nat.le_refl _) _
  have hB : Blk (w.alloc (.cells #[.slice A n c] 46)) w.heap.size 46 #[.slice A n c] := Blk.new w _ _
  have hso := sortedFunc_any w.heap.size A n c L (w.alloc (.cells #[.slice A n c] 46)) (h.up hb0) (by omega) (by simp) (by simp)
  have hv := values_any A n c w
  have H := Lib.hid (And.intro hb0 (And.intro hso (And.intro hv ht)))
  have hl := h.len
  clear hb0 hB hso hv h
  go_enter Tryd.func17, Tryd.ntmps17
  go_wp2_with fail
  refine H.out.2.2.1.mono ?_
  rintro e w1 ⟨rfl, rfl⟩
  go_wp2_with fail
  refine H.out.2.1.mono ?_
  rintro e w2 ⟨A2, n2, c2, S, rfl, hr2, hp, ho, hb2⟩
  have hj := join_any A2 n2 c2 S w2 hr2 (by have := hr2.len; have := hp.length_eq; omega) (by rw [perm_cat hp]; exact ht)
  have H2 := Lib.hid (And.intro hp (And.intro ho (And.intro hb2 hj)))
  clear hr2 hp ho hb2 hj
  go_wp2_with fail
  refine H2.out.2.2.2.mono ?_
  rintro e w3 ⟨A3, n3, c3, rfl, ho3, hb3⟩
  have H3 := Lib.hid (And.intro ho3 hb3)
  clear ho3 hb3
  go_wp2
  go_ret
  have hbw := H.out.1.trans (H2.out.2.2.1.mono (by simp))
  exact ⟨S, H2.out.1, H2.out.2.1, retOwn (H3.out.1.mono hbw.size (Nat.le_refl _)) (hbw.trans (H3.out.2.mono hbw.size))⟩
end Go.Proofs.YtnfngnmajjkdbaaDoor
