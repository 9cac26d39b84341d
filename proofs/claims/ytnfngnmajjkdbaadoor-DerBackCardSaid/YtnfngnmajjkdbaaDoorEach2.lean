/- A range over the elements of bytes: the law for whoever ranges over der.each: what the rounds keep, how they go on, how they leave. -/
import Derived.Test.YtnfngnmajjkdbaaDoorEach
namespace Go.Proofs.YtnfngnmajjkdbaaDoor
open Go.RowKit Go.Shelf
attribute [local go_sem] Oper.semAt_some
set_option maxRecDepth 100000

/-- I abides what the iterator and the loop's own book-keeping do: stores into block Bn; turns of blocks from N on that are no cells; new blocks. -/
def OwnX {β : Type} (Bn N : Nat) (I : β → World → Prop) : Prop :=
  ∀ s X Y row, I s X → X.grownBy Y row → (∀ r, row = some r → r = Bn ∨ (N ≤ r ∧ ∃ o : Obj, X.heap[r]? = some o ∧ o.isCells = false)) → I s Y
theorem OwnX.putObj {β : Type} {Bn N : Nat} {I : β → World → Prop} (h : OwnX Bn N I) {s : β} {W : World} {l : Nat} {o : Obj} (o' : Obj) (hs : I s W) (hN : N ≤ l) (hl : W.heap[l]? = some o) (ho : o.isCells = false) : I s (W.putObj l o') :=
  h s W _ (some l) hs (grownBy_putObj' W l o') fun r e => by cases e; exact .inr ⟨hN, o, hl, ho⟩
theorem OwnX.alloc {β : Type} {Bn N : Nat} {I : β → World → Prop} (h : OwnX Bn N I) {s : β} {W : World} (o : Obj) (hs : I s W) : I s (W.alloc o) :=
  h s W _ none hs (World.grownBy_alloc W o none) fun r e => by cases e
theorem OwnX.and {β : Type} {Bn N : Nat} {I I' : β → World → Prop} (h : OwnX Bn N I) (h' : OwnX Bn N I') : OwnX Bn N (fun s W => I s W ∧ I' s W) :=
  fun s X Y row hs hg hr => ⟨h s X Y row hs.1 hg hr, h' s X Y row hs.2 hg hr⟩
theorem OwnX.pure_ {β : Type} (Bn N : Nat) (p : β → Prop) : OwnX Bn N (fun s (_ : World) => p s) := fun _ _ _ _ hs _ _ => hs
/-- A block of cells of the caller's own, other than the iterator's. -/
theorem OwnX.blk {β : Type} {Bn N g : Nat} (t : TypeId) (cs : β → Array Value) (hne : g ≠ Bn) : OwnX Bn N (fun s W => Blk W g t (cs s)) := by
  intro s X Y row hs hg hr
  refine hs.grown hg fun e => ?_
  rcases hr g e.symm with rfl | ⟨_, o, ho, hc⟩
  · exact hne rfl
  · unfold Blk at hs
    rw [hs] at ho
    cases ho
    cases hc
theorem OwnX.below {β : Type} {Bn N n₀ : Nat} {w₀ : World} (h1 : n₀ ≤ Bn) (h2 : n₀ ≤ N) (h3 : n₀ ≤ w₀.heap.size) : OwnX Bn N (fun (_ : β) W => Below n₀ w₀ W) := by
  intro s X Y row hs hg hr
  refine hs.grown hg (Nat.le_trans h3 hs.size) fun k e => ?_
  rcases hr k e with rfl | ⟨h, _⟩
  · exact h1
  · omega

/-- How a round may be left. -/
def postX {α : Type} (Bn N : Nat) (I : List α → World → Prop) (Ix : Code → List α → World → Prop) (xs : List α) (W : World) : Exit → Act → World → Prop
  | .normal, _, W' => KeepsFrom N W W' ∧ W'.heap[Bn]? = W.heap[Bn]? ∧ I xs W'
  | .ret, _, W' => KeepsFrom N W W' ∧ Ix .ret xs W'
  | .exit id, _, W' => KeepsFrom N W W' ∧ Ix (.exit id) xs W'
  | .goto t, _, W' => KeepsFrom N W W' ∧ Ix (.goto t) xs W'
  | .panic _, _, _ => False
  | .outgrown, _, _ => False

theorem putObj_other {W : World} {l k : Nat} {o : Obj} (h : k ≠ l) : (W.putObj l o).heap[k]? = W.heap[k]? := World.putObj_heap_other h

theorem range_each {n : Nat} {ps : Array Tmp} {assign body : Code} {Q : Exit → Act → World → Prop} {a : Act} {w : World} {g : Operand} (h1 : 3 ≤ n) (Bn : Nat)
    (hg : a.eval g = .func (.func 37) #[] #[.pointer (some ⟨Bn, 0, none⟩)]) (hps : ps.size = 2)
    (n₀ : Nat) (w₀ : World) (A : Option Addr) (m c : Nat) (xs : List UInt8) (hB : Blk w Bn 22 #[.slice A m c]) (hr : Rd w₀ n₀ A m c xs)
    (I : List Item → World → Prop) (Ix : Code → List Item → World → Prop) (hI : OwnX Bn w.heap.size I) (hIx : ∀ c, OwnX Bn w.heap.size (Ix c))
    (hIb : ∀ s X, I s X → Below n₀ w₀ X ∧ n₀ ≤ X.heap.size) (h0 : I [] w)
    (Ax : Item → Act → World → Prop) (hAx : ∀ x a', OwnX Bn w.heap.size (fun (_ : Unit) W => Ax x a' W))
    (hassign : ∀ (l : Nat) (pre : List Item) (x : Item) (W : World) (K : Act → World → Prop), I pre W → x.good n₀ w₀ → (∀ a' W', KeepsFrom w.heap.size W W' → W'.heap[Bn]? = W.heap[Bn]? → I pre W' → Ax x a' W' → K a' W') →
      assign.wpIn (Fence.wide.inRound l) (n - 1 - 1) Tryd.prog (Exit.then K (fun _ _ _ => False)) { tmps := (ps.zip #[x.v, .bool x.ok]).foldl (fun t (p, v) => t.setIfInBounds p v) a.tmps, defers := [] } W)
    (hbody : ∀ (l : Nat) (pre : List Item) (x : Item) (a' : Act) (W : World), w.heap.size ≤ l → (∃ r, W.heap[l]? = some (.loop r)) → I pre W → Ax x a' W → x.good n₀ w₀ → (∃ tl, Der.seq xs = (pre ++ [x]).map (·.dat) ++ tl) →
      body.wpIn (Fence.wide.inRound l) (n - 1 - 1) Tryd.prog (postX Bn w.heap.size I Ix (pre ++ [x]) W) a' W)
    (hdone : ∀ (D : Nat) (ys : List Item) (W : World), w.heap.size ≤ D → ys.map (·.dat) = Der.seq xs → I ys W → W.heap[D]? = some (.deferred (some [])) → Q .normal { a with defers := { target := .collected D, args := #[] } :: a.defers } W)
    (hstop : ∀ (D : Nat) (c : Code) (pre : List Item) (W : World), w.heap.size ≤ D → Ix c pre W → W.heap[D]? = some (.deferred (some [])) → c.wpIn Fence.wide n Tryd.prog Q { a with defers := { target := .collected D, args := #[] } :: a.defers } W) :
    (Code.rangeFunc g ps assign body).wpIn Fence.wide n Tryd.prog Q a w := by
  refine wpIn_rangeFunc ?_
  intro fn hfn
  obtain ⟨rec, hrec⟩ : ∃ rec : LoopState → Option Code → Loop, rec = fun st pe => { state := st, pending := pe, fn, tmps := a.tmps, params := ps, assign, body, defers := w.heap.size } := ⟨_, rfl⟩
  obtain ⟨W1, hW1⟩ : ∃ W1, (w.alloc (.deferred (some []))).alloc (.loop (rec .ready none)) = W1 := ⟨_, rfl⟩
  have hL1 : W1.heap[w.heap.size + 1]? = some (.loop (rec .ready none)) := by
    rw [← hW1]; have := World.alloc_heap_new (w.alloc (.deferred (some []))) (.loop (rec .ready none)); rwa [World.size_alloc] at this
  have hK1 : W1.heap[w.heap.size]? = some (.deferred (some [])) := by
    rw [← hW1]; exact (Below.heap_alloc _ _ _ (by simp)).trans (World.alloc_heap_new w _)
  have hI1 : I [] W1 := by rw [← hW1]; exact hI.alloc _ (hI.alloc _ h0)
  have hB1 : Blk W1 Bn 22 #[.slice A m c] := by rw [← hW1]; exact (hB.alloc _).alloc _
  have hBlt := hB.lt
  refine ⟨w.heap.size + 1, [{ target := .collected w.heap.size, args := #[] }], W1, { target := .fn (.func 37) #[.pointer (some ⟨Bn, 0, none⟩)], args := #[.func (.yield (w.heap.size + 1)) #[] #[]] }, W1, 37,
    #[.func (.yield (w.heap.size + 1)) #[] #[]] ++ #[.pointer (some ⟨Bn, 0, none⟩)], W1, ?_, ?_, ?_, ?_, fun _ => by omega, ?_⟩
  · rw [← hW1, hrec]; exact run_enterLoop_outer _ _ _ _ _
  · simp only [resolve, hg]
    simp [go_sem]
  · intro f' _; trivial
  · simp [invoke, go_sem]
  · refine (each1_in (n - 1) (by omega) (w.heap.size + 1) Bn n₀ w₀ A m c xs hr
      (fun pre W => I pre W ∧ W.heap[w.heap.size + 1]? = some (.loop (rec .ready none)) ∧ W.heap[w.heap.size]? = some (.deferred (some [])))
      (fun pre W => ∃ c, Ix c pre W ∧ W.heap[w.heap.size + 1]? = some (.loop (rec .done (some c))) ∧ W.heap[w.heap.size]? = some (.deferred (some [])))
      ?hJ ?hJx ?hJb ?round W1 hB1 ⟨hI1, hL1, hK1⟩).mono ?behind
    case hJ =>
      rintro s X Y ⟨hi, hl, hk⟩ hgr
      exact ⟨hI s X Y _ hi hgr (fun r e => .inl (by injection e with e; exact e.symm)), (hgr.block _ (Array.getElem?_eq_some_iff.1 hl).1 (by simp; omega)).trans hl, (hgr.block _ (Array.getElem?_eq_some_iff.1 hk).1 (by simp; omega)).trans hk⟩
    case hJx =>
      rintro s X Y ⟨c, hi, hl, hk⟩ hgr
      exact ⟨c, hIx c s X Y _ hi hgr (fun r e => .inl (by injection e with e; exact e.symm)), (hgr.block _ (Array.getElem?_eq_some_iff.1 hl).1 (by simp; omega)).trans hl, (hgr.block _ (Array.getElem?_eq_some_iff.1 hk).1 (by simp; omega)).trans hk⟩
    case hJb => exact fun s X h => hIb s X h.1
    case round =>
      rintro pre x W ⟨hi, hl, hk⟩ hgood htl
      have hlt : w.heap.size + 1 < W.heap.size := (Array.getElem?_eq_some_iff.1 hl).1
      have hy := run_yield (P := Tryd.prog) (args := #[x.v, .bool x.ok]) hl (by rw [hrec]; exact hps.symm)
      rw [hrec] at hy
      refine ⟨fn, _, assign, body, hy, roundIn_of_wpIn hfn (hassign _ pre x W _ hi hgood ?_)⟩
      clear hy
      intro a' Wa hkfa hBa hia hax
      have hla := hkfa.same _ _ (by omega) hl rfl
      have hka := hkfa.same _ _ (Nat.le_refl _) hk rfl
      have hlta : w.heap.size + 1 < Wa.heap.size := (Array.getElem?_eq_some_iff.1 hla).1
      refine ⟨_, run_beginRound hla (by rw [hrec]), ?_⟩
      have hl2 : (Wa.putObj (w.heap.size + 1) (.loop { rec .ready none with state := .busy })).heap[w.heap.size + 1]? = some (.loop { rec .ready none with state := .busy }) := World.putObj_heap_same hlta
      have hk2 : (Wa.putObj (w.heap.size + 1) (.loop { rec .ready none with state := .busy })).heap[w.heap.size]? = some (.deferred (some [])) := (putObj_other (by omega)).trans hka
      refine wpIn_mono (hbody _ pre x a' _ (by omega) ⟨_, hl2⟩ (hI.putObj _ hia (by omega) hla rfl) ((hAx x a').putObj (s := ()) _ hax (by omega) hla rfl) hgood htl) ?_
      have fin : ∀ (jump : Option Code) (W3 : World), KeepsFrom w.heap.size (Wa.putObj (w.heap.size + 1) (.loop { rec .ready none with state := .busy })) W3 →
          (Instr.endRound (w.heap.size + 1) jump).run Tryd.prog W3 = .ok (.bool jump.isNone) (W3.putObj (w.heap.size + 1) (.loop (rec (if jump.isNone then .ready else .done) jump))) ∧
          W3.heap[w.heap.size + 1]? = some (.loop { rec .ready none with state := .busy }) ∧
          (W3.putObj (w.heap.size + 1) (.loop (rec (if jump.isNone then .ready else .done) jump))).heap[w.heap.size + 1]? = some (.loop (rec (if jump.isNone then .ready else .done) jump)) ∧
          (W3.putObj (w.heap.size + 1) (.loop (rec (if jump.isNone then .ready else .done) jump))).heap[w.heap.size]? = some (.deferred (some [])) := fun jump W3 hk3 => by
        have hl3 := hk3.same _ _ (by omega) hl2 rfl
        have := run_endRound (P := Tryd.prog) jump hl3
        rw [hrec] at this ⊢
        exact ⟨this, by rw [hrec] at hl3; exact hl3, World.putObj_heap_same (Array.getElem?_eq_some_iff.1 hl3).1, (putObj_other (by omega)).trans (hk3.same _ _ (Nat.le_refl _) hk2 rfl)⟩
      rintro e a3 W3 hp
      cases e with
      | normal =>
        obtain ⟨hk3, hB3, hi3⟩ := hp
        obtain ⟨hr3, hl3, hl4, hk4⟩ := fin none W3 hk3
        refine ⟨_, _, hr3, .inl ⟨rfl, ⟨hI.putObj _ hi3 (by omega) hl3 rfl, hl4, hk4⟩, ?_⟩⟩
        rw [putObj_other (by omega), hB3, putObj_other (by omega), hBa]
      | ret =>
        obtain ⟨hk3, hi3⟩ := hp
        obtain ⟨hr3, hl3, hl4, hk4⟩ := fin (some .ret) W3 hk3
        exact ⟨_, _, hr3, .inr ⟨rfl, .ret, (hIx _).putObj _ hi3 (by omega) hl3 rfl, hl4, hk4⟩⟩
      | exit id =>
        obtain ⟨hk3, hi3⟩ := hp
        obtain ⟨hr3, hl3, hl4, hk4⟩ := fin (some (.exit id)) W3 hk3
        exact ⟨_, _, hr3, .inr ⟨rfl, .exit id, (hIx _).putObj _ hi3 (by omega) hl3 rfl, hl4, hk4⟩⟩
      | goto t =>
        obtain ⟨hk3, hi3⟩ := hp
        obtain ⟨hr3, hl3, hl4, hk4⟩ := fin (some (.goto t)) W3 hk3
        exact ⟨_, _, hr3, .inr ⟨rfl, .goto t, (hIx _).putObj _ hi3 (by omega) hl3 rfl, hl4, hk4⟩⟩
      | panic ch => exact hp.elim
      | outgrown => exact hp.elim
    case behind =>
      rintro e W2 ⟨⟨v, rfl⟩, (⟨ys, hS, hi, hl, hk⟩ | ⟨pre, c', hi, hl, hk⟩)⟩
      · exact ⟨none, _, by have := run_endLoop (P := Tryd.prog) hl (by rw [hrec]; simp); rw [hrec] at this; exact this, hdone _ ys _ (Nat.le_refl _) hS (hI.putObj _ hi (by omega) hl rfl) ((putObj_other (by omega)).trans hk)⟩
      · exact ⟨some c', _, by have := run_endLoop (P := Tryd.prog) hl (by rw [hrec]; simp); rw [hrec] at this; exact this, hstop _ c' pre _ (Nat.le_refl _) ((hIx c').putObj _ hi (by omega) hl rfl) ((putObj_other (by omega)).trans hk)⟩
end Go.Proofs.YtnfngnmajjkdbaaDoor
