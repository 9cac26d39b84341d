/- The contract of the law's put. -/
import Derived.Test.YtmnekhliblkibaaElms
import Derived.Deep.RegionHeld3
import Derived.Deep.RegionHeld2
import Derived.Deep.RegionHeld
namespace Go.Proofs.Ytmnekhliblkibaa
open Go.RowKit
set_option maxRecDepth 1000000
set_option linter.unusedVariables false
set_option linter.unusedSimpArgs false

theorem Kase.come.up {k : Kase} {w w' : World} {A0 A1 A2 : Option Addr} {n0 c0 n1 c1 n2 c2 : Nat} (h : k.come w A0 A1 A2 n0 c0 n1 c1 n2 c2) (hb : Below w.heap.size w w') : k.come w' A0 A1 A2 n0 c0 n1 c1 n2 c2 :=
  ⟨h.r0.up hb, h.r1.up hb, h.r2.up hb, h.iss, h.sub, h.from_, h.to, h.e, h.path, h.usage⟩
/-- One of the rows is another one. -/
theorem XS.put {w : World} {lo g n c : Nat} {l : List (Value × List UInt8)} {v : Value} {xs : List UInt8} (h : XS w lo (.slice (some ⟨g, 0, none⟩) n c) l) (i : Nat) (hv : RdT w v xs) :
    XS (w.setCell ⟨g, i, none⟩ v) lo (.slice (some ⟨g, 0, none⟩) n c) (l.set i (v, xs)) := by
  obtain ⟨⟨h1, h2⟩, h3⟩ := h
  obtain ⟨h4, ⟨e, _⟩ | ⟨g', cap, cur, e, hb, hg, hn, hm, hs, ht⟩⟩ := h1
  · cases e
  injection e with e1 e2 e3
  injection e1 with e1
  injection e1 with e1
  subst e1 e3
  have hB : Blk w g 22 cur := hg
  have hlt := hB.lt
  have hkeep : ∀ (g' : Nat) (cs : Array Value) (fr : Nat × Nat), w.heap[g']? = some (Obj.cells cs 5 fr) → (w.setCell ⟨g, i, none⟩ v).heap[g']? = w.heap[g']? := fun g' cs fr hg' =>
    Below.heap_setCell _ _ _ _ (fun e => by
      have e : g' = g := e
      subst e
      rw [hg] at hg'
      injection hg' with hg'
      injection hg' with _ ht2 _
      exact absurd ht2 (by decide))
  refine ⟨⟨⟨by simp, .inr ⟨g, c, cur.setIfInBounds i v, ?_, hb, hB.set_ i v, ?_, hm, by simpa using hs, ?_⟩⟩, ?_⟩, ?_⟩
  · simp only [List.length_set]
    rw [← e2]
  · simp only [List.length_set]
    exact hn
  · rw [Array.toList_setIfInBounds, List.length_set, Nat.mul_one, List.take_set]
    rw [Nat.mul_one] at ht
    rw [ht, List.map_set]
  · intro k hk
    have := h2 k hk
    simpa using this
  · intro p hp
    have hsz : w.heap.size ≤ (w.setCell ⟨g, i, none⟩ v).heap.size := by simp
    rcases List.mem_or_eq_of_mem_set hp with hp | rfl
    · exact (h3 p hp).keep hsz hkeep
    · exact hv.keep hsz hkeep
theorem XS.spot {w : World} {lo n c : Nat} {A : Option Addr} {l : List (Value × List UInt8)} (h : XS w lo (.slice A n c) l) (hn : 0 < n) : ∃ g, A = some ⟨g, 0, none⟩ ∧ lo ≤ g ∧ g < w.heap.size ∧ l.length = n ∧
    ∀ i, i < n → (∃ v, w.cell? ⟨g, i, none⟩ = some v) ∧ w.frozen? ⟨g, i, none⟩ = false := by
  obtain ⟨⟨h1, h2⟩, h3⟩ := h
  obtain ⟨h4, ⟨e, e0⟩ | ⟨g', cap, cur, e, hb, hg, hn', hm, hs, ht⟩⟩ := h1
  · injection e with e1 e2 e3; omega
  injection e with e1 e2 e3
  subst e1 e2 e3
  have hB : Blk w g' 22 cur := hg
  refine ⟨g', rfl, hb, hB.lt, rfl, fun i hi => ⟨⟨cur[i]'(by omega), ?_⟩, hB.frozen i⟩⟩
  rw [hB.cell i]
  exact Array.getElem?_eq_getElem _
end Go.Proofs.Ytmnekhliblkibaa
