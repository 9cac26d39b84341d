/- Small laws on rows of bytes: one that was written out; one that another row's append keeps. -/
import Derived.Test.YtadkiildjehdmaaDoorMem
namespace Go.Proofs.YtadkiildjehdmaaDoor
open Go.RowKit
set_option maxRecDepth 100000

/-- A slice of bytes that was written out is a row of the call's own. -/
theorem OwnB.lit (w : World) (xs : List UInt8) (cs : List Value) (n : Nat) (hc : cs = xs.map bv) (hl : xs.length = n) (hn : n ≤ 1099511627776) :
    OwnB (w.alloc (.cells cs.toArray 5)) w.heap.size (w.heap.size + 1) (.slice (some ⟨w.heap.size, 0, none⟩) n n) xs := by
  subst hc hl
  refine ⟨⟨by simp, .inr ⟨w.heap.size, _, _, rfl, Nat.le_refl _, heap_alloc_new w _, Nat.le_refl _, by simp only [maxLen]; omega, by simp, by simp only [Nat.mul_one]; rw [List.take_of_length_le (by simp)]⟩⟩, fun k hk => by simp [Value.ownBlock] at hk; omega⟩

/-- An owned row is kept by an append onto another row. -/
theorem OwnB.kept {w w' : World} {lo hi : Nat} {v v0 : Value} {xs : List UInt8} (h : OwnB w lo hi v xs) (hg : w.grownBy w' v0.ownBlock) (hh : hi ≤ w.heap.size) (hn : ∀ k, v0.ownBlock = some k → k < lo ∨ hi ≤ k) : OwnB w' lo hi v xs :=
  h.keep fun k h1 h2 => hg.block k (by omega) (fun e => by have := hn k e.symm; omega)

end Go.Proofs.YtadkiildjehdmaaDoor
