/- The contract of lintelref10.Sets: the parts in their order, one behind the other. -/
import Derived.Test.YtdokijdbefannaaSetC
import Derived.Test.YtdokijdbefannaaSetP
import Derived.Test.YtdokijdbefannaaCmp
import Derived.Test.YtdokijdbefannaaNum
import Derived.Test.YtdokijdbefannaaDer6
import Derived.BigQuiet
import Derived.Deep.QuietTactic
namespace Go.Proofs.Ytdokijdbefannaa
open Go.RowKit
set_option maxRecDepth 100000
set_option linter.unusedVariables false
set_option linter.unusedSimpArgs false

theorem OwnC.cell1 {e : TypeId} {n g cap lo hi : Nat} {w : World} {cs : List Value} (h : OwnC e 1 w lo hi (.slice (some ⟨g, 0, none⟩) n cap) n cs) {j : Nat} {u : Value} (hu : cs[j]? = some u) :
    w.cell? ⟨g, j, none⟩ = some u ∧ w.frozen? ⟨g, j, none⟩ = false := by
  rcases h.1.2 with ⟨e0, _⟩ | ⟨g', cap', cur, e1, hb, hg, hnc, hcm, hcs, ht⟩
  · cases e0
  · simp only [Value.slice.injEq, Option.some.injEq, Addr.mk.injEq] at e1
    obtain ⟨⟨rfl, _⟩, _, rfl⟩ := e1
    rw [← ht, List.getElem?_take] at hu
    refine ⟨?_, by simp [World.frozen?, hg]⟩
    split at hu
    · simp only [World.cell?, hg]; simpa using hu
    · cases hu
theorem OwnC.store1 {e : TypeId} {n g cap lo hi : Nat} {w : World} {cs : List Value} (h : OwnC e 1 w lo hi (.slice (some ⟨g, 0, none⟩) n cap) n cs) (j : Nat) (u : Value) :
    OwnC e 1 (w.setCell ⟨g, j, none⟩ u) lo hi (.slice (some ⟨g, 0, none⟩) n cap) n (cs.set j u) := by
  refine ⟨⟨by simpa using h.1.1, ?_⟩, h.2⟩
  rcases h.1.2 with ⟨e0, _⟩ | ⟨g', cap', cur, e1, hb, hg, hnc, hcm, hcs, ht⟩
  · cases e0
  · simp only [Value.slice.injEq, Option.some.injEq, Addr.mk.injEq] at e1
    obtain ⟨⟨rfl, _⟩, _, rfl⟩ := e1
    refine .inr ⟨g, cap, cur.setIfInBounds j u, rfl, hb, ?_, hnc, hcm, by simpa using hcs, ?_⟩
    · show (w.heap.modify g _)[g]? = _
      rw [Array.getElem?_modify, if_pos rfl, hg]
      rfl
    · rw [← ht, Array.toList_setIfInBounds, List.take_set]
/-- The cells while a part is put in between: those before, one whose cell waits, those behind. -/
theorem gap_set {S : List (Value × List UInt8)} {a : Nat} {u y : Value} {ys : List UInt8} (hy : S[a]? = some (y, ys)) :
    (vals (S.take (a + 1)) ++ u :: vals (S.drop (a + 1))).set (a + 1) y = vals (S.take (a + 1)) ++ y :: vals (S.drop (a + 1)) ∧
    vals (S.take (a + 1)) ++ y :: vals (S.drop (a + 1)) = vals (S.take a) ++ y :: vals (S.drop a) := by
  have hl : a < S.length := (List.getElem?_eq_some_iff.1 hy).1
  have hl1 : (vals (S.take (a + 1))).length = a + 1 := by rw [vals_len, List.length_take]; omega
  constructor
  · rw [List.set_append_right _ _ (by omega), hl1]
    simp
  · have he : S[a] = (y, ys) := by rw [List.getElem?_eq_getElem hl] at hy; injection hy
    rw [List.take_add_one, hy, List.drop_eq_getElem_cons hl, he]
    simp [vals]
theorem gap_at {S : List (Value × List UInt8)} {a : Nat} {u y : Value} {ys : List UInt8} (hy : S[a]? = some (y, ys)) : (vals (S.take (a + 1)) ++ u :: vals (S.drop (a + 1)))[a]? = some y := by
  have hl : a < S.length := (List.getElem?_eq_some_iff.1 hy).1
  rw [List.getElem?_append_left (by rw [vals_len, List.length_take]; omega)]
  simp [vals, List.getElem?_take, hy]
theorem gap_put (S : List (Value × List UInt8)) {a : Nat} (ha : a ≤ S.length) (u x : Value) (xs : List UInt8) : (vals (S.take a) ++ u :: vals (S.drop a)).set a x = vals (S.take a ++ (x, xs) :: S.drop a) := by
  have hl1 : (vals (S.take a)).length = a := by rw [vals_len, List.length_take]; omega
  rw [List.set_append_right _ _ (by omega), hl1]
  simp [vals]

/-- The parts so far, in their order. -/
def SoFar (L : List (Value × List UInt8)) (w : World) (k : Nat) (v : Value) (wr : World) : Prop :=
  ∃ S : List (Value × List UInt8), S.length = k ∧ S.Perm (L.take k) ∧ Ord (S.map (·.2)) ∧ OwnC 24 1 wr w.heap.size wr.heap.size v k (vals S) ∧ Below w.heap.size w wr
/-- While one is put in between: a of them stand before its place. -/
def Gap (S : List (Value × List UInt8)) (x : List UInt8) (w : World) (g cap k a : Nat) (wr : World) : Prop :=
  a ≤ k ∧ (∀ y ∈ S.drop a, Op.bytesLess x y.2 = true) ∧ (∃ u : Value, OwnC 24 1 wr w.heap.size wr.heap.size (.slice (some ⟨g, 0, none⟩) (k + 1) cap) (k + 1) (vals (S.take a) ++ u :: vals (S.drop a))) ∧ Below w.heap.size w wr
theorem Gap.drewN {S : List (Value × List UInt8)} {x : List UInt8} {w wr : World} {g cap k a : Nat} (h : Gap S x w g cap k a wr) (n : Nat) : Gap S x w g cap k a (wr.drewN n) := by
  obtain ⟨h1, h2, ⟨u, h3⟩, h4⟩ := h
  exact ⟨h1, h2, ⟨u, h3⟩, below_drewN h4 n⟩
theorem Gap.step {S : List (Value × List UInt8)} {x ys : List UInt8} {y : Value} {w wr : World} {g cap k a : Nat} (h : Gap S x w g cap k (a + 1) wr) (hg : w.heap.size ≤ g) (hy : S[a]? = some (y, ys)) (hz : Op.bytesLess x ys = true) :
    Gap S x w g cap k a (wr.setCell ⟨g, a + 1, none⟩ y) := by
  obtain ⟨h1, h2, ⟨u, h3⟩, h4⟩ := h
  have hl : a < S.length := (List.getElem?_eq_some_iff.1 hy).1
  have he : S[a] = (y, ys) := by rw [List.getElem?_eq_getElem hl] at hy; injection hy
  refine ⟨by omega, fun z hz' => ?_, ⟨y, ?_⟩, h4.setCell hg _⟩
  · rw [List.drop_eq_getElem_cons hl, he] at hz'
    rcases List.mem_cons.1 hz' with rfl | h
    · exact hz
    · exact h2 z h
  · have := h3.store1 (a + 1) y
    obtain ⟨g1, g2⟩ := gap_set (u := u) hy
    rw [g1, g2] at this
    simpa using this
theorem Gap.put {L S : List (Value × List UInt8)} {xs : List UInt8} {v : Value} {w wr : World} {g cap k a : Nat} (h : Gap S xs w g cap k a wr) (hg : w.heap.size ≤ g) (hl : S.length = k) (hp : S.Perm (L.take k)) (ho : Ord (S.map (·.2))) (hx : L[k]? = some (v, xs))
    (hz : a = 0 ∨ ∃ a' y ys, a = a' + 1 ∧ S[a']? = some (y, ys) ∧ Op.bytesLess xs ys = false) : SoFar L w (k + 1) (.slice (some ⟨g, 0, none⟩) (k + 1) cap) (wr.setCell ⟨g, a, none⟩ v) := by
  obtain ⟨h1, h2, ⟨u, h3⟩, h4⟩ := h
  refine ⟨S.take a ++ (v, xs) :: S.drop a, ?_, ?_, ?_, ?_, h4.setCell hg _⟩
  · simp; omega
  · rw [List.take_add_one, hx]
    refine List.Perm.trans List.perm_middle ?_
    rw [List.take_append_drop]
    refine List.Perm.trans (hp.cons _) ?_
    exact (List.perm_append_singleton _ _).symm
  · rw [List.map_append, List.map_cons]
    refine ord_put (by rw [← List.map_append, List.take_append_drop]; exact ho) (fun y hy => ?_) (fun y hy => ?_)
    · rcases hz with rfl | ⟨a', y', ys, rfl, hy', hz⟩
      · simp at hy
      · rw [List.take_add_one, hy'] at hy
        simp at hy
        rw [← hy]; exact hz
    · obtain ⟨q, hq, rfl⟩ := List.mem_map.1 hy
      exact h2 q hq
  · have := h3.store1 a v
    rw [gap_put S (by omega) u v xs] at this
    simpa using this
theorem OwnC.slice_ {e : TypeId} {n lo hi : Nat} {w : World} {v : Value} {cs : List Value} (h : OwnC e 1 w lo hi v n cs) (hn : 0 < n) : ∃ g cap, v = .slice (some ⟨g, 0, none⟩) n cap ∧ lo ≤ g ∧ g < hi := by
  rcases h.1.2 with ⟨_, e0⟩ | ⟨g, cap, cur, e1, hb, _⟩
  · omega
  · subst e1
    exact ⟨g, cap, rfl, hb, h.2 g rfl⟩
theorem perm_cat {S L : List (Value × List UInt8)} (h : S.Perm L) : (cat S).length = (cat L).length := by
  unfold cat
  rw [List.length_flatten, List.length_flatten]
  exact ((h.map _).map _).sum_nat
end Go.Proofs.Ytdokijdbefannaa
