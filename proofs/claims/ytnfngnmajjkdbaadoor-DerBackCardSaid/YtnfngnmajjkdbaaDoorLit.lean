/- Small laws on rows of bytes: one that was written out; one that another row's append keeps. -/
import Derived.Test.YtnfngnmajjkdbaaDoorMem
import Derived.Test.YtnfngnmajjkdbaaDoorMem2
namespace Go.Proofs.YtnfngnmajjkdbaaDoor
open Go.RowKit
set_option maxRecDepth 100000

/-- A slice of bytes that was written out is a row of the call's own. -/
theorem OwnB.lit (w : World) (xs : List UInt8) (cs : List Value) (n : Nat) (hc : cs = xs.map bv) (hl : xs.length = n) (hn : n ≤ 1099511627776) :
    OwnB (w.alloc (.cells cs.toArray 5)) w.heap.size (w.heap.size + 1) (.slice (some ⟨w.heap.size, 0, none⟩) n n) xs := by
  subst hc hl
  refine ⟨⟨by simp, .inr ⟨w.heap.size, _, _, rfl, Nat.le_refl _, heap_alloc_new w _, Nat.le_refl _, by simp only [maxLen]; omega, by simp, by simp only [Nat.mul_one]; rw [List.take_of_length_le (by simp)]⟩⟩, fun k hk => by simp [Value.ownBlock] at hk; omega⟩

/-- An owned row is kept by an append onto another row. -/
theorem OwnB.kept {w w' : World} {lo hi : Nat} {v v0 : Value} {xs : List UInt8} (h : OwnB w lo hi v xs) (hg : w.grownBy w' v0.ownBlock) (hh : hi ≤ w.heap.size) (hn : ∀ k, v0.ownBlock = some k → k < lo ∨ hi ≤ k) : OwnB w' lo hi v xs :=
  h.keep fun k h1 h2 => hg.block k (by omega) (fun e => by have := hn k e.symm; omega)

theorem reads_block (w : World) (t : TypeId) (cs : List Value) (g : Nat) (hg : g = w.heap.size) : Reads (w.alloc (.cells cs.toArray t)) (w.alloc (.cells cs.toArray t)).heap.size 1 (some ⟨g, 0, none⟩) cs.length cs := by
  subst hg
  refine ⟨by simp, fun _ => ⟨_, rfl, by simp, fun j x hx => ?_⟩⟩
  rw [Addr.add_lit, World.cell?_alloc_at _ _ _ _ rfl]
  simpa using hx
/-- A slice of bytes that was written out. -/
theorem Rd.lit (w : World) (t : TypeId) (xs : List UInt8) (cs : List Value) (g n : Nat) (hg : g = w.heap.size) (hc : cs = xs.map bv) (hl : xs.length = n) (hn : n ≤ 1099511627776) :
    Rd (w.alloc (.cells cs.toArray t)) (w.alloc (.cells cs.toArray t)).heap.size (some ⟨g, 0, none⟩) n n xs := by
  subst hc hl
  refine ⟨rfl, Nat.le_refl _, by omega, fun e => (by cases e), fun _ => ⟨_, 0, rfl, by subst hg; simp⟩, ?_⟩
  have := reads_block w t (xs.map bv) g hg
  rwa [List.length_map] at this
/-- A slice of slices of bytes that was written out. -/
theorem RdL.lit (w : World) (t : TypeId) (l : List (Value × List UInt8)) (cs : List Value) (g n : Nat) (hg : g = w.heap.size) (hc : cs = l.map (·.1)) (hl : l.length = n) (hn : n ≤ 1099511627776) (h : ∀ v xs, (v, xs) ∈ l → RdV w w.heap.size v xs) :
    RdL (w.alloc (.cells cs.toArray t)) (w.alloc (.cells cs.toArray t)).heap.size (some ⟨g, 0, none⟩) n n l := by
  subst hc hl
  refine ⟨rfl, Nat.le_refl _, by omega, ?_, fun v xs hm => ?_⟩
  · have := reads_block w t (l.map (·.1)) g hg
    rwa [List.length_map] at this
  · obtain ⟨A, n, c, e, hr⟩ := h v xs hm
    exact ⟨A, n, c, e, (hr.alloc (Nat.le_refl _) _).more (by simp)⟩

theorem bv_ofNat {n : Nat} (h : n < 256) : bv (UInt8.ofNat n) = Value.int .u8 (n : Int) := by
  simp only [bv, UInt8.toNat_ofNat']
  rw [Nat.mod_eq_of_lt (by omega)]

/-- A byte of an owned row is stored. -/
theorem OwnB.stored {w : World} {lo hi g n cap : Nat} {xs : List UInt8} (h : OwnB w lo hi (.slice (some ⟨g, 0, none⟩) n cap) xs) (hn : xs.length = n) (j : Nat) (x : UInt8) :
    OwnB (w.setCell ⟨g, j, none⟩ (.int .u8 (x.toNat : Int))) lo hi (.slice (some ⟨g, 0, none⟩) n cap) (xs.set j x) := by
  subst hn
  have hs := (h.1.stored j (bv x)).1
  refine ⟨?_, h.2⟩
  rw [List.map_set, List.length_set]
  exact hs
theorem OwnB.cellAt {w : World} {lo hi g n cap : Nat} {xs : List UInt8} (h : OwnB w lo hi (.slice (some ⟨g, 0, none⟩) n cap) xs) (hn : xs.length = n) {j : Nat} (hj : j < n) :
    ∃ x, xs[j]? = some x ∧ w.cell? ⟨g, j, none⟩ = some (.int .u8 (x.toNat : Int)) := by
  subst hn
  refine ⟨xs[j], List.getElem?_eq_getElem hj, ?_⟩
  rw [h.1.cellAt j (by omega)]
  simp [bv, hj]

theorem grownBy_store {w wr : World} {g : Nat} (h : w.grownBy wr (some g)) (o : Nat) (u : Value) : w.grownBy (wr.setCell ⟨g, o, none⟩ u) (some g) :=
  ⟨h.os, h.tape, h.output, by simpa [World.setCell] using h.size, fun i hi hne => (Below.heap_setCell wr _ u i (by rintro rfl; exact hne rfl)).trans (h.block i hi hne)⟩
theorem grownBy_drewN {w wr : World} {r : Option Nat} (h : w.grownBy wr r) (n : Nat) : w.grownBy (wr.drewN n) r := ⟨h.os, h.tape, h.output, h.size, h.block⟩

def CatRel (l : List (Value × List UInt8)) (w : World) (k : Nat) (v : Value) (wr : World) : Prop := OwnB wr w.heap.size wr.heap.size v (cat (l.take k)) ∧ Below w.heap.size w wr

end Go.Proofs.YtnfngnmajjkdbaaDoor
