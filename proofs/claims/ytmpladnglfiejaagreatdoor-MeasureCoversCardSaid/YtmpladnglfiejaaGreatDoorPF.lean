/- Joined of: PeRange PeSgs PePa PeSame. -/
import Derived.Test.YtmpladnglfiejaaGreatDoorPeRows
import Derived.Test.YtmpladnglfiejaaGreatDoorPE
import Derived.Test.YtmpladnglfiejaaGreatDoorPD
import Derived.Test.YtmpladnglfiejaaGreatDoorPB
import Derived.Test.YtmpladnglfiejaaGreatDoorPC
import Derived.BigQuiet
import Derived.Deep.QuietTactic
section
/- A range over the signatures of a certificate table: the law. -/
namespace Go.Proofs.YtmpladnglfiejaaGreatDoor
open Go.RowKit Go.Shelf
attribute [local go_sem] Oper.semAt_some
set_option maxRecDepth 100000
set_option linter.unusedVariables false
set_option linter.unusedSimpArgs false

/-- I abides what the iterator and the loop's own book-keeping do: stores into the blocks g and Bn; turns of blocks from N on that are no cells; new blocks. -/
def OwnY {β : Type} (g Bn N : Nat) (I : β → World → Prop) : Prop :=
  ∀ s X Y row, I s X → X.grownBy Y row → (∀ r, row = some r → r = g ∨ r = Bn ∨ (N ≤ r ∧ ∃ o : Obj, X.heap[r]? = some o ∧ o.isCells = false)) → I s Y
theorem OwnY.putObj {β : Type} {g Bn N : Nat} {I : β → World → Prop} (h : OwnY g Bn N I) {s : β} {W : World} {l : Nat} {o : Obj} (o' : Obj) (hs : I s W) (hN : N ≤ l) (hl : W.heap[l]? = some o) (ho : o.isCells = false) : I s (W.putObj l o') :=
  h s W _ (some l) hs (grownBy_putObj W l o') fun r e => by cases e; exact .inr (.inr ⟨hN, o, hl, ho⟩)
theorem OwnY.alloc {β : Type} {g Bn N : Nat} {I : β → World → Prop} (h : OwnY g Bn N I) {s : β} {W : World} (o : Obj) (hs : I s W) : I s (W.alloc o) :=
  h s W _ none hs (World.grownBy_alloc W o none) fun r e => by cases e
theorem OwnY.below {β : Type} {g Bn N : Nat} {I : β → World → Prop} (h : OwnY g Bn N I) {s : β} {X Y : World} (hs : I s X) (hb : Below X.heap.size X Y) : I s Y :=
  h s X Y none hs ⟨hb.os, hb.tape, hb.output, hb.size, fun k hk _ => hb.block k hk⟩ fun r e => by cases e
/-- How a round may end. -/
def postY (g Pn Bn N : Nat) (I : List (Value × List UInt8) → World → Prop) (xs : List (Value × List UInt8)) (W : World) : Exit → Act → World → Prop
  | .normal, _, W' => KeepsFrom N W W' ∧ (∀ k, k = g ∨ k = Pn ∨ k = Bn → W'.heap[k]? = W.heap[k]?) ∧ I xs W'
  | _, _, _ => False
theorem putObj_other2 {W : World} {l k : Nat} {o : Obj} (h : k ≠ l) : (W.putObj l o).heap[k]? = W.heap[k]? := World.putObj_heap_other h
theorem RW.putObj {g Pn Bn a l : Nat} {s : Value} {f : Bool} {W : World} {o : Obj} (h : RW g Pn Bn s f a W) (hl : Bn < l) : RW g Pn Bn s f a (W.putObj l o) := by
  have h1 := h.gP
  have h2 := h.PB
  exact ⟨(putObj_other2 (by omega)).trans h.rd, (putObj_other2 (by omega)).trans h.ptr, (putObj_other2 (by omega)).trans h.at_, h1, h2⟩
theorem ownB_block {w w' : World} {lo hi : Nat} {v : Value} {xs : List UInt8} (h : OwnB w lo hi v xs) (hk : ∀ k, lo ≤ k → k < hi → w'.heap[k]? = w.heap[k]?) : OwnB w' lo hi v xs := h.keep hk

theorem range_rows {n : Nat} {ps : Array Tmp} {assign body : Code} {Q : Exit → Act → World → Prop} {a : Act} {w : World} {gop : Operand} (h1 : 3 ≤ n) (g Pn Bn : Nat)
    (hg : a.eval gop = .func (.func 73) #[] #[.pointer (some ⟨Pn, 0, none⟩), .pointer (some ⟨Bn, 0, none⟩)]) (hps : ps.size = 1)
    (n₀ : Nat) (w₀ : World) (A : Option Addr) (m c : Nat) (xs : List UInt8) (hr : Rd w₀ n₀ A m c xs) (hm : m ≤ 16777216) (hn₀ : n₀ ≤ g) (f0 : Bool) (a0 : Nat) (hW : RW g Pn Bn (.slice A m c) f0 a0 w) (ha0 : a0 ≤ 4294967296)
    (I : List (Value × List UInt8) → World → Prop) (hI : OwnY g Bn w.heap.size I) (hIb : ∀ s X, I s X → Below n₀ w₀ X) (h0 : I [] w)
    (Ax : Value → Act → Prop)
    (hassign : ∀ (l : Nat) (v : Value) (W : World) (K : Act → World → Prop), (∀ a', Ax v a' → K a' W) →
      assign.wpIn (Fence.wide.inRound l) (n - 1 - 1) Tryz.prog (Exit.then K (fun _ _ _ => False)) { tmps := (ps.zip #[v]).foldl (fun t (p, v) => t.setIfInBounds p v) a.tmps, defers := [] } W)
    (hbody : ∀ (l : Nat) (pre : List (Value × List UInt8)) (v : Value) (zs : List UInt8) (a' : Act) (X W : World), w.heap.size ≤ l → I pre X → pre.length < m → X.heap.size ≤ W.heap.size → (∀ k, k < X.heap.size → k ≠ l → W.heap[k]? = X.heap[k]?) → (∀ k, k < X.heap.size → k = l → ∃ r, X.heap[k]? = some (.loop r)) →
      I pre W → OwnB W X.heap.size W.heap.size v zs → Ax v a' →
      body.wpIn (Fence.wide.inRound l) (n - 1 - 1) Tryz.prog (postY g Pn Bn w.heap.size I (pre ++ [(v, zs)]) W) a' W)
    (hdone : ∀ (D : Nat) (pre : List (Value × List UInt8)) (a1 : Nat) (W : World), w.heap.size ≤ D → I pre W → RW g Pn Bn (.slice A m c) (f0 && (Pe.rows xs a0).isSome) a1 W → (∀ L, f0 = true → Pe.rows xs a0 = some L → pre.map (·.2) = L) → W.heap[D]? = some (.deferred (some [])) → Q .normal { a with defers := { target := .collected D, args := #[] } :: a.defers } W) :
    (Code.rangeFunc gop ps assign body).wpIn Fence.wide n Tryz.prog Q a w := by
  refine wpIn_rangeFunc ?_
  intro fn hfn
  obtain ⟨rec, hrec⟩ : ∃ rec : LoopState → Option Code → Loop, rec = fun st pe => { state := st, pending := pe, fn, tmps := a.tmps, params := ps, assign, body, defers := w.heap.size } := ⟨_, rfl⟩
  obtain ⟨W1, hW1⟩ : ∃ W1, (w.alloc (.deferred (some []))).alloc (.loop (rec .ready none)) = W1 := ⟨_, rfl⟩
  have hL1 : W1.heap[w.heap.size + 1]? = some (.loop (rec .ready none)) := by
    rw [← hW1]; have := World.alloc_heap_new (w.alloc (.deferred (some []))) (.loop (rec .ready none)); rwa [World.size_alloc] at this
  have hK1 : W1.heap[w.heap.size]? = some (.deferred (some [])) := by
    rw [← hW1]; exact (Below.heap_alloc _ _ _ (by simp)).trans (World.alloc_heap_new w _)
  have hI1 : I [] W1 := by rw [← hW1]; exact hI.alloc _ (hI.alloc _ h0)
  have hB1 : RW g Pn Bn (.slice A m c) f0 a0 W1 := by rw [← hW1]; exact hW.below (((Below.refl _ _).alloc (Nat.le_refl _) _).alloc (by simp) _)
  have hgP := hW.gP
  have hPB := hW.PB
  have hBlt := hW.at_.lt
  refine ⟨w.heap.size + 1, [{ target := .collected w.heap.size, args := #[] }], W1, { target := .fn (.func 73) #[.pointer (some ⟨Pn, 0, none⟩), .pointer (some ⟨Bn, 0, none⟩)], args := #[.func (.yield (w.heap.size + 1)) #[] #[]] }, W1, 73,
    #[.func (.yield (w.heap.size + 1)) #[] #[]] ++ #[.pointer (some ⟨Pn, 0, none⟩), .pointer (some ⟨Bn, 0, none⟩)], W1, ?_, ?_, ?_, ?_, fun _ => by omega, ?_⟩
  · rw [← hW1, hrec]; exact run_enterLoop_outer _ _ _ _ _
  · simp only [resolve, hg]
    simp [go_sem]
  · intro f' _; trivial
  · simp [invoke, go_sem]
  · refine (rows1_in (n - 1) (by omega) (w.heap.size + 1) g Pn Bn n₀ w₀ A m c xs hr hm hn₀
      (fun pre W => I pre W ∧ W.heap[w.heap.size + 1]? = some (.loop (rec .ready none)) ∧ W.heap[w.heap.size]? = some (.deferred (some [])))
      ?hJ (fun s X h => hIb s X h.1) ?round a0 W1 f0 hB1 ⟨hI1, hL1, hK1⟩ ha0).mono ?behind
    case hJ =>
      rintro s X Y r ⟨hi, hl, hk⟩ hgr hrr
      refine ⟨hI s X Y _ hi hgr (fun j e => ?_), (hgr.block _ (Array.getElem?_eq_some_iff.1 hl).1 (fun e => ?_)).trans hl, (hgr.block _ (Array.getElem?_eq_some_iff.1 hk).1 (fun e => ?_)).trans hk⟩
      · rcases hrr j e with rfl | rfl
        · exact .inl rfl
        · exact .inr (.inl rfl)
      · rcases hrr _ e.symm with h | h <;> omega
      · rcases hrr _ e.symm with h | h <;> omega
    case round =>
      rintro pre v zs X W ⟨hi, hl, hk⟩ hlen hbX hown
      have hlX := (Array.getElem?_eq_some_iff.1 hl).1
      have hlW : W.heap[w.heap.size + 1]? = some (.loop (rec .ready none)) := (hbX.block _ hlX).trans hl
      have hkW : W.heap[w.heap.size]? = some (.deferred (some [])) := (hbX.block _ (Array.getElem?_eq_some_iff.1 hk).1).trans hk
      have hy := run_yield (P := Tryz.prog) (args := #[v]) hlW (by rw [hrec]; exact hps.symm)
      rw [hrec] at hy
      refine ⟨fn, _, assign, body, hy, roundIn_of_wpIn hfn (hassign _ v W _ ?_)⟩
      clear hy
      intro a' hax
      have hltW : w.heap.size + 1 < W.heap.size := (Array.getElem?_eq_some_iff.1 hlW).1
      refine ⟨_, run_beginRound hlW (by rw [hrec]), ?_⟩
      have hl2 : (W.putObj (w.heap.size + 1) (.loop { rec .ready none with state := .busy })).heap[w.heap.size + 1]? = some (.loop { rec .ready none with state := .busy }) := World.putObj_heap_same hltW
      have hk2 : (W.putObj (w.heap.size + 1) (.loop { rec .ready none with state := .busy })).heap[w.heap.size]? = some (.deferred (some [])) := (putObj_other2 (by omega)).trans hkW
      have hsz2 : (W.putObj (w.heap.size + 1) (.loop { rec .ready none with state := .busy })).heap.size = W.heap.size := by simp
      refine wpIn_mono (hbody _ pre v zs a' X _ (by omega) hi hlen (by rw [hsz2]; exact hbX.size) (fun k hkl hne => (putObj_other2 hne).trans (hbX.block k hkl)) (fun k hkl e => by subst e; exact ⟨_, hl⟩) (hI.putObj _ (hI.below hi hbX) (by omega) hlW rfl) (by rw [hsz2]; exact hown.keep fun k h3 h4 => putObj_other2 (by omega)) hax) ?_
      rintro e a3 W3 hp
      cases e with
      | normal =>
        obtain ⟨hk3, hB3, hi3⟩ := hp
        have hl3 := hk3.same _ _ (by omega) hl2 rfl
        have hk4 := hk3.same _ _ (Nat.le_refl _) hk2 rfl
        have hr3 : (Instr.endRound (w.heap.size + 1) none).run Tryz.prog W3 = .ok (.bool true) (W3.putObj (w.heap.size + 1) (.loop (rec .ready none))) := by
          have := run_endRound (P := Tryz.prog) none hl3
          rw [hrec] at this ⊢
          exact this
        refine ⟨_, _, hr3, rfl, ⟨?_, World.putObj_heap_same (Array.getElem?_eq_some_iff.1 hl3).1, (putObj_other2 (by omega)).trans hk4⟩, fun k hkk => ?_⟩
        · exact hI.putObj _ hi3 (by omega) hl3 rfl
        · rw [putObj_other2 (by rcases hkk with h | h | h <;> omega), hB3 k hkk, putObj_other2 (by rcases hkk with h | h | h <;> omega)]
      | _ => exact hp.elim
    case behind =>
      rintro e W2 ⟨⟨v, rfl⟩, pre, a1, ⟨hi, hl, hk⟩, hrw, hL⟩
      have hend := run_endLoop (P := Tryz.prog) hl (by rw [hrec]; simp)
      rw [hrec] at hend
      exact ⟨none, _, hend, hdone _ pre a1 _ (Nat.le_refl _) (hI.putObj _ hi (by omega) hl rfl) (hrw.putObj (by omega)) hL ((putObj_other2 (by omega)).trans hk)⟩
end Go.Proofs.YtmpladnglfiejaaGreatDoor
end

section
/- Signatures in memory: a row of rows, each in memory of its own. -/
namespace Go.Proofs.YtmpladnglfiejaaGreatDoor
open Go.RowKit Go.Shelf
attribute [local go_sem] Oper.semAt_some
set_option maxRecDepth 100000
set_option linter.unusedVariables false
set_option linter.unusedSimpArgs false

/-- No two of these lie in one block. -/
def ApartS (l : List (Value × List UInt8)) : Prop := l.Pairwise fun p q => ∀ g, p.1.ownBlock = some g → q.1.ownBlock ≠ some g
theorem OwnC.keepCells {e : TypeId} {size n lo hi : Nat} {w w' : World} {v : Value} {cs : List Value} (h : OwnC e size w lo hi v n cs) (hk : ∀ (k : Nat) (cur : Array Value) (fr : Nat × Nat), lo ≤ k → k < hi → w.heap[k]? = some (.cells cur e fr) → w'.heap[k]? = w.heap[k]?) : OwnC e size w' lo hi v n cs := by
  refine ⟨⟨h.1.1, ?_⟩, h.2⟩
  rcases h.1.2 with h1 | ⟨g, cap, cur, rfl, hb, hg, hr⟩
  · exact .inl h1
  · exact .inr ⟨g, cap, cur, rfl, hb, (hk g cur _ hb (h.2 g rfl) hg).trans hg, hr⟩
theorem OwnB.keepCells {lo hi : Nat} {w w' : World} {v : Value} {xs : List UInt8} (h : OwnB w lo hi v xs) (hk : ∀ (k : Nat) (cur : Array Value) (fr : Nat × Nat), lo ≤ k → k < hi → w.heap[k]? = some (.cells cur 5 fr) → w'.heap[k]? = w.heap[k]?) : OwnB w' lo hi v xs :=
  OwnC.keepCells (e := 5) (size := 1) (n := xs.length) (cs := xs.map bv) h hk
/-- A row of rows of the call's own. -/
structure Sgs (w : World) (lo : Nat) (v : Value) (l : List (Value × List UInt8)) : Prop where
  row : OwnC 22 1 w lo w.heap.size v l.length (l.map (·.1))
  own : ∀ p ∈ l, OwnB w lo w.heap.size p.1 p.2
  apart : ApartS l
theorem Sgs.nil_ (w : World) (lo : Nat) : Sgs w lo (.slice none 0 0) [] := ⟨OwnC.nil_, (fun p hp => by cases hp), List.Pairwise.nil⟩
theorem Sgs.keep {w w' : World} {lo : Nat} {v : Value} {l : List (Value × List UInt8)} (h : Sgs w lo v l) (hs : w.heap.size ≤ w'.heap.size) (hk : ∀ (k : Nat) (cur : Array Value) (e : TypeId) (fr : Nat × Nat), lo ≤ k → w.heap[k]? = some (.cells cur e fr) → w'.heap[k]? = w.heap[k]?) : Sgs w' lo v l :=
  ⟨(h.row.keepCells fun k cur fr h1 _ h2 => hk k cur _ fr h1 h2).mono (Nat.le_refl _) hs, fun p hp => ((h.own p hp).keepCells fun k cur fr h1 _ h2 => hk k cur _ fr h1 h2).mono (Nat.le_refl _) hs, h.apart⟩
theorem Sgs.below {w w' : World} {lo : Nat} {v : Value} {l : List (Value × List UInt8)} (h : Sgs w lo v l) (hb : Below w.heap.size w w') : Sgs w' lo v l :=
  h.keep hb.size fun k cur e fr _ hk => hb.block k (Array.getElem?_eq_some_iff.1 hk).1
theorem Sgs.one {w : World} {lo : Nat} {v : Value} {l : List (Value × List UInt8)} (h : Sgs w lo v l) : ∃ A n c, v = .slice A n c := by
  obtain ⟨A, c, e, _⟩ := h.row.shape
  exact ⟨A, _, c, e⟩
theorem Sgs.lower {w : World} {lo lo' : Nat} {v : Value} {l : List (Value × List UInt8)} (h : Sgs w lo v l) (hl : lo' ≤ lo) : Sgs w lo' v l :=
  ⟨h.row.mono hl (Nat.le_refl _), fun p hp => (h.own p hp).mono hl (Nat.le_refl _), h.apart⟩
/-- One more, appended. -/
theorem Sgs.append {X W W' : World} {lo : Nat} {v v' b : Value} {l : List (Value × List UInt8)} {zs : List UInt8} (h : Sgs X lo v l) (hX : lo ≤ X.heap.size) (hXW : X.heap.size ≤ W.heap.size)
    (hk : ∀ (k : Nat) (cur : Array Value) (e : TypeId) (fr : Nat × Nat), k < X.heap.size → X.heap[k]? = some (.cells cur e fr) → W.heap[k]? = X.heap[k]?)
    (hb : OwnB W X.heap.size W.heap.size b zs) (hW : W.heap.size ≤ W'.heap.size) (hk' : ∀ (k : Nat) (cur : Array Value) (fr : Nat × Nat), k < W.heap.size → W.heap[k]? = some (.cells cur 5 fr) → W'.heap[k]? = W.heap[k]?)
    (hr : OwnC 22 1 W' lo W'.heap.size v' (l.length + 1) (l.map (·.1) ++ [b])) : Sgs W' lo v' (l ++ [(b, zs)]) := by
  refine ⟨by rw [List.length_append, List.map_append]; exact hr, fun p hp => ?_, ?_⟩
  · rcases List.mem_append.1 hp with hp | hp
    · have h1 := h.own p hp
      have h2 : OwnB W lo X.heap.size p.1 p.2 := h1.keepCells fun k cur fr _ h3 h4 => hk k cur _ fr h3 h4
      exact (h2.keepCells fun k cur fr _ h3 h4 => hk' k cur fr (by omega) h4).mono (Nat.le_refl _) (by omega)
    · obtain rfl := List.mem_singleton.1 hp
      exact (hb.keepCells fun k cur fr _ h3 h4 => hk' k cur fr h3 h4).mono hX hW
  · refine List.pairwise_append.2 ⟨h.apart, List.pairwise_singleton _ _, fun p hp q hq g e1 e2 => ?_⟩
    obtain rfl := List.mem_singleton.1 hq
    have k1 := (h.own p hp).2 g e1
    have k2 := (hb.1.lt g e2).1
    omega
/-- rows: the iterator over the signatures. -/
theorem rows_any (g : Nat) (a : Int) (W : World) :
    Calls Tryz.prog 55 #[.pointer (some ⟨g, 0, none⟩), .int .i64 a] W fun e W' => e = .returned (.func (.func 73) #[] #[.pointer (some ⟨W.heap.size, 0, none⟩), .pointer (some ⟨W.heap.size + 1, 0, none⟩)]) ∧
      Below W.heap.size W W' ∧ W'.heap.size = W.heap.size + 2 ∧ Blk W' W.heap.size 68 #[.pointer (some ⟨g, 0, none⟩)] ∧ Blk W' (W.heap.size + 1) 3 #[.int .i64 a] := by
  have hmf : ∀ (fn : Fn) (first cap : Array Value) (w : World), (Instr.makeFunc fn first cap).run Tryz.prog w = .ok (.func fn first cap) w := fun _ _ _ _ => rfl
  go_enter Tryz.func55, Tryz.ntmps55
  go_wp2
  go_ret
  refine ⟨rfl, by (repeat (first | exact Below.refl _ _ | assumption | (refine Below.setCell ?_ (by first | omega | (simp; done) | (simp; omega)) _) | (refine Below.alloc ?_ (by first | omega | (simp; done) | (simp; omega)) _) | (refine below_drewN ?_ _) | (refine Below.drew ?_))), by simp, (Blk.new _ _ _).alloc _, ?_⟩
  have := Blk.new (W.alloc (.cells #[.pointer (some ⟨g, 0, none⟩)] 68)) 3 #[.int .i64 a]
  rwa [World.size_alloc] at this
/-- While the signatures come: the image's block, its sections, the signatures so far. -/
structure SI (w0 : World) (g I hi N : Nat) (C : IV) (k : Nat) (cs : List Value) (pre : List (Value × List UInt8)) (W : World) : Prop where
  im : ∃ v, Bi W I {C with sigs := v} ∧ Sgs W N v pre
  secs : OwnC 59 2 W w0.heap.size hi C.secs k cs
  grown : w0.grownBy W (some g)
  size : N ≤ W.heap.size
theorem SI.own {w0 : World} {g I hi N Bn k : Nat} {C : IV} {cs : List Value} (hg : g < w0.heap.size) (hI : w0.heap.size ≤ I) (hIB : I < Bn) (hhi : hi ≤ Bn) (hBN : Bn < N) : OwnY g Bn N (SI w0 g I hi N C k cs) := by
  rintro pre X Y row ⟨⟨v, him, hs⟩, hsec, hgr, hsz⟩ hXY hrow
  have hk : ∀ (j : Nat) (cur : Array Value) (e : TypeId) (fr : Nat × Nat), w0.heap.size ≤ j → j ≠ Bn → X.heap[j]? = some (.cells cur e fr) → Y.heap[j]? = X.heap[j]? := fun j cur e fr h1 h2 h3 => hXY.block j (Array.getElem?_eq_some_iff.1 h3).1 (fun e => by
    rcases hrow j e.symm with h4 | h4 | ⟨_, o, h5, h6⟩
    · omega
    · exact h2 h4
    · rw [h3] at h5; injection h5 with h5; subst h5; cases h6)
  have hw0 := hgr.size
  refine ⟨⟨v, (hk I _ _ _ hI (by omega) him).trans him, hs.keep hXY.size fun j cur e fr h1 h2 => hk j cur e fr (by omega) (by omega) h2⟩, hsec.keepCells fun j cur fr h1 h2 h3 => hk j cur _ fr h1 (by omega) h3, ?_, Nat.le_trans hsz hXY.size⟩
  refine grown_on hgr hXY fun j e => ?_
  rcases hrow j e with h4 | h4 | ⟨h4, _⟩
  · exact .inr h4
  · exact .inl (by omega)
  · exact .inl (by omega)
end Go.Proofs.YtmpladnglfiejaaGreatDoor
end

section
/- What parse keeps while it works. -/
namespace Go.Proofs.YtmpladnglfiejaaGreatDoor
open Go.RowKit Go.Shelf
attribute [local go_sem] Oper.semAt_some
set_option maxRecDepth 100000
set_option linter.unusedVariables false
set_option linter.unusedSimpArgs false

section
variable {w0 W : World} {g I n c : Nat} {A : Option Addr} {f : Bool} {C : IV} {xs : List UInt8}
theorem PA.at4 (h : PA w0 g I (.slice A n c) f C W) (hr : Rd w0 g A n c xs) (hn : n ≤ 16777216) (p : Nat) (q : Int) (hq : q = (p : Int)) (hp : p ≤ 1099511627776) :
    Calls Tryz.prog 51 #[.pointer (some ⟨g, 0, none⟩), .int .i64 q, .int .i64 4] W fun e w' => e = .returned (.int .i64 (Pe.at_ xs p 4 : Int)) ∧ PA w0 g I (.slice A n c) (f && Pe.inb xs p 4) C w' :=
  (at_at g A n c xs f p 4 q W hq h.rd (h.rdd hr) (by omega) hp (.inr (.inr rfl)) 4 rfl).mono fun e w' k => ⟨k.1, h.stp k.2⟩
theorem PA.at2 (h : PA w0 g I (.slice A n c) f C W) (hr : Rd w0 g A n c xs) (hn : n ≤ 16777216) (p : Nat) (q : Int) (hq : q = (p : Int)) (hp : p ≤ 1099511627776) :
    Calls Tryz.prog 51 #[.pointer (some ⟨g, 0, none⟩), .int .i64 q, .int .i64 2] W fun e w' => e = .returned (.int .i64 (Pe.at_ xs p 2 : Int)) ∧ PA w0 g I (.slice A n c) (f && Pe.inb xs p 2) C w' :=
  (at_at g A n c xs f p 2 q W hq h.rd (h.rdd hr) (by omega) hp (.inr (.inl rfl)) 2 rfl).mono fun e w' k => ⟨k.1, h.stp k.2⟩
theorem PA.must (h : PA w0 g I (.slice A n c) f C W) (ok : Bool) :
    Calls Tryz.prog 52 #[.pointer (some ⟨g, 0, none⟩), .bool ok] W fun e w' => e = .returned (.tuple #[]) ∧ PA w0 g I (.slice A n c) (f && ok) C w' :=
  (must_any g (.slice A n c) f ok W h.rd ⟨_, _, _, rfl⟩).mono fun e w' k => ⟨k.1, h.stp k.2⟩
end
/-- The sections too. -/
structure PB (w0 : World) (g I : Nat) (s : Value) (f : Bool) (C : IV) (xs : List UInt8) (hi m : Nat) (W : World) : Prop where
  pa : PA w0 g I s f C W
  secs : OwnC 59 2 W w0.heap.size hi C.secs m ((Pe.secs xs).flatMap secC)
  hi_ : hi ≤ W.heap.size
section
variable {w0 W W' : World} {g I n c hi m : Nat} {A : Option Addr} {f f' : Bool} {C D : IV} {xs : List UInt8} {s : Value}
theorem PB.grown (h : PB w0 g I s f C xs hi m W) (hp : PA w0 g I s f' D W') (hD : D.secs = C.secs) {r : Option Nat} (hg : W.grownBy W' r) (hr : ∀ k, r = some k → k < w0.heap.size ∨ k = I) : PB w0 g I s f' D xs hi m W' := by
  refine ⟨hp, ?_, Nat.le_trans h.hi_ hg.size⟩
  rw [hD]
  refine h.secs.keepCells fun k cur fr h1 h2 h3 => hg.block k (by have := h.hi_; omega) (fun e => ?_)
  rcases hr k e.symm with h4 | h4
  · omega
  · have him := h.pa.im
    unfold Bi Blk at him
    rw [h4, him] at h3
    injection h3 with h3
    injection h3 with h5 h6
    exact absurd h6 (by decide)
theorem PB.stp (h : PB w0 g I s f C xs hi m W) (hs : Stp g s f' W W') : PB w0 g I s f' C xs hi m W' :=
  h.grown (h.pa.stp hs) rfl hs.grown (fun k e => .inl (by injection e with e; rw [← e]; exact h.pa.lt))
theorem PB.at4 (h : PB w0 g I (.slice A n c) f C xs hi m W) (hr : Rd w0 g A n c xs) (hn : n ≤ 16777216) (p : Nat) (q : Int) (hq : q = (p : Int)) (hp : p ≤ 1099511627776) :
    Calls Tryz.prog 51 #[.pointer (some ⟨g, 0, none⟩), .int .i64 q, .int .i64 4] W fun e w' => e = .returned (.int .i64 (Pe.at_ xs p 4 : Int)) ∧ PB w0 g I (.slice A n c) (f && Pe.inb xs p 4) C xs hi m w' :=
  (at_at g A n c xs f p 4 q W hq h.pa.rd (h.pa.rdd hr) (by omega) hp (.inr (.inr rfl)) 4 rfl).mono fun e w' k => ⟨k.1, h.stp k.2⟩
theorem PB.must (h : PB w0 g I (.slice A n c) f C xs hi m W) (ok : Bool) :
    Calls Tryz.prog 52 #[.pointer (some ⟨g, 0, none⟩), .bool ok] W fun e w' => e = .returned (.tuple #[]) ∧ PB w0 g I (.slice A n c) (f && ok) C xs hi m w' :=
  (must_any g (.slice A n c) f ok W h.pa.rd ⟨_, _, _, rfl⟩).mono fun e w' k => ⟨k.1, h.stp k.2⟩
theorem PB.put (h : PB w0 g I s f C xs hi m W) (i : Nat) (v : Value) (hD : D.cells = C.cells.setIfInBounds i v) (hs : D.secs = C.secs) : PB w0 g I s f D xs hi m (W.setCell ⟨I, i, none⟩ v) :=
  h.grown (h.pa.put i v hD) hs (grownBy_set W ⟨I, i, none⟩ v) (fun k e => .inr (by injection e with e; exact e.symm))
theorem PB.store (h : PB w0 g I s f C xs hi m W) (hB : Bi W' I D) (hs : D.secs = C.secs) (hg : W.grownBy W' (some I)) : PB w0 g I s f D xs hi m W' :=
  h.grown (h.pa.store hB hg) hs hg (fun k e => .inr (by injection e with e; exact e.symm))
theorem PB.below (h : PB w0 g I s f C xs hi m W) (hb : Below W.heap.size W W') : PB w0 g I s f C xs hi m W' :=
  h.grown (h.pa.below hb) rfl (r := none) ⟨hb.os, hb.tape, hb.output, hb.size, fun k hk _ => hb.block k hk⟩ (fun k e => by cases e)
end
def PR (w0 : World) (g I : Nat) (s : Value) (f : Bool) (C : IV) (xs : List UInt8) (hi m : Nat) (x y : World) : Prop := PB w0 g I s f C xs hi m x → PB w0 g I s f C xs hi m y
theorem PR.refl {w0 : World} {g I : Nat} {s : Value} {f : Bool} {C : IV} {xs : List UInt8} {hi m : Nat} (x : World) : PR w0 g I s f C xs hi m x x := fun h => h
/-- What region 18's slots hold. -/
def FromV (g I d fr ln : Nat) : Nat → Value
  | 0 => .pointer (some ⟨g, 0, none⟩)
  | 1 => .pointer (some ⟨I, 2, none⟩)
  | 2 => .int .i64 ((d : Nat) : Int)
  | 3 => .int .i64 (fr : Int)
  | 4 => .pointer (some ⟨g, 0, none⟩)
  | 5 => .pointer (some ⟨I, 2, none⟩)
  | 6 => .int .i64 ((d : Nat) : Int)
  | 7 => .int .i64 ((d : Int) + 4)
  | 8 => .int .i64 (ln : Int)
  | 9 => .int .i64 (fr : Int)
  | 10 => .int .i64 (ln : Int)
  | _ => undef
/-- An image in memory of the call's own. -/
structure ImgOwn (xs : List UInt8) (C : IV) (lo : Nat) (W : World) : Prop where
  nums : C.plus = Pe.plus xs ∧ C.check = Pe.opt xs + 64 ∧ C.dir = Pe.dirs xs + 32 ∧ C.headers = Pe.headers xs ∧ C.table = (if Pe.bare xs then 0 else Pe.from_ xs) ∧ C.length = (if Pe.bare xs then 0 else Pe.length xs)
  secs : OwnC 59 2 W lo W.heap.size C.secs (Pe.secs xs).length ((Pe.secs xs).flatMap secC)
  sigs : ∃ l, Sgs W lo C.sigs l ∧ l.map (·.2) = Pe.sigs xs
/-- What parse answers. -/
def ParsePost (g : Nat) (s : Value) (xs : List UInt8) (w : World) (e : Ending) (w' : World) : Prop :=
  ∃ C : IV, e = .returned C.val ∧ Stp g s (Pe.fine xs) w w' ∧ C.One ∧ (Pe.fine xs = true → ImgOwn xs C w.heap.size w')
def tailOf : Nat → Code → Code
  | 0, c => c
  | n + 1, .seq _ c => tailOf n c
  | _, c => c
def codeOf (f : Func) : Code := f.body.getD .skip
/-- What the beginning of parse finds. -/
structure KA (xs : List UInt8) (n pe many size magic : Nat) (fs : Bool) : Prop where
  len : xs.length = n
  pe_ : Pe.at_ xs 60 4 = pe
  many_ : Pe.at_ xs (pe + 6) 2 = many
  size_ : Pe.at_ xs (pe + 20) 2 = size
  magic_ : Pe.at_ xs (pe + 24) 2 = magic
  fs_ : (Pe.first xs && Pe.second xs) = fs
  pel : pe < 4294967296
  manyl : many < 65536
  sizel : size < 65536
  magicl : magic < 65536
/-- What parse knows behind the sections. -/
structure KB (xs : List UInt8) (n pe dirs hdrs m1 en fr ln : Nat) (la plus : Bool) : Prop where
  len : xs.length = n
  pe_ : Pe.at_ xs 60 4 = pe
  plus_ : Pe.plus xs = plus
  dirs_ : Pe.dirs xs = dirs
  head_ : Pe.head xs = true
  hdrs_ : Pe.headers xs = hdrs
  secs_ : (Pe.secs xs).length = m1
  end_ : Pe.end_ xs = en
  laid_ : Pe.laid xs = la
  from_ : Pe.at_ xs (dirs + 32) 4 = fr
  length_ : Pe.at_ xs (dirs + 36) 4 = ln
  pel : pe < 4294967296
  dirsl : pe + 120 ≤ dirs ∧ dirs ≤ pe + 136
  hdrsl : hdrs < 4294967296
  enl : en ≤ 1099511627776
  frl : fr < 4294967296
  lnl : ln < 4294967296
end Go.Proofs.YtmpladnglfiejaaGreatDoor
end

section
/- The reference's Same, at images that say the same. -/
namespace Go.Proofs.YtmpladnglfiejaaGreatDoor
open Go.RowKit
set_option maxRecDepth 100000
set_option linter.unusedVariables false
set_option linter.unusedSimpArgs false
theorem eqbytes_same (A A' : Option Addr) (n c n' c' : Nat) (xs : List UInt8) (B B' : Nat) (w : World) (h : Rd w B A n c xs) (h' : Rd w B' A' n' c' xs) :
    Calls Tryz.prog 13 #[.slice A n c, .slice A' n' c'] w fun e w' => e = .returned (.bool true) ∧ w' = w :=
  (eqbytes_any A A' n c n' c' xs xs B B' w h h').mono fun e w' h => by obtain ⟨rfl, rfl⟩ := h; exact ⟨by simp [eqB], rfl⟩
set_option maxHeartbeats 4000000 in
theorem same_any (pl : Bool) (ck dr hd tb ln m s c4 d4 c7 d7 : Nat) (A4 B4 A7 B7 : Option Addr) (l : List (Nat × Nat)) (l7 r7 : List (Value × List UInt8)) (w : World) (hm : m ≤ 1099511627776) (hs : s ≤ 1099511627776)
    (h4 : RdS w w.heap.size A4 m c4 l) (k4 : RdS w w.heap.size B4 m d4 l) (h7 : RdL w w.heap.size A7 s c7 l7) (k7 : RdL w w.heap.size B7 s d7 r7) (e7 : l7.map (·.2) = r7.map (·.2)) :
    Calls Tryz.prog 11 #[(IV.mk pl ck dr hd (.slice A4 m c4) tb ln (.slice A7 s c7)).val, (IV.mk pl ck dr hd (.slice B4 m d4) tb ln (.slice B7 s d7)).val] w fun e w' => e = .returned (.bool true) ∧ Below w.heap.size w w' := by
  have hX : Blk ((w.alloc (.cells (IV.mk pl ck dr hd (.slice A4 m c4) tb ln (.slice A7 s c7)).cells 30)).alloc (.cells (IV.mk pl ck dr hd (.slice B4 m d4) tb ln (.slice B7 s d7)).cells 30)) w.heap.size 30 (IV.mk pl ck dr hd (.slice A4 m c4) tb ln (.slice A7 s c7)).cells := (Blk.new _ _ _).alloc _
  have hY : Blk ((w.alloc (.cells (IV.mk pl ck dr hd (.slice A4 m c4) tb ln (.slice A7 s c7)).cells 30)).alloc (.cells (IV.mk pl ck dr hd (.slice B4 m d4) tb ln (.slice B7 s d7)).cells 30)) (w.heap.size + 1) 30 (IV.mk pl ck dr hd (.slice B4 m d4) tb ln (.slice B7 s d7)).cells := by
    have := Blk.new (w.alloc (.cells (IV.mk pl ck dr hd (.slice A4 m c4) tb ln (.slice A7 s c7)).cells 30)) 30 (IV.mk pl ck dr hd (.slice B4 m d4) tb ln (.slice B7 s d7)).cells
    rwa [World.size_alloc] at this
  have hbw : Below w.heap.size w ((w.alloc (.cells (IV.mk pl ck dr hd (.slice A4 m c4) tb ln (.slice A7 s c7)).cells 30)).alloc (.cells (IV.mk pl ck dr hd (.slice B4 m d4) tb ln (.slice B7 s d7)).cells 30)) := by (repeat (first | exact Below.refl _ _ | assumption | (refine Below.setCell ?_ (by first | omega | (simp; done) | (simp; omega)) _) | (refine Below.alloc ?_ (by first | omega | (simp; done) | (simp; omega)) _) | (refine below_drewN ?_ _) | (refine Below.drew ?_)))
  unfold IV.val
  obtain ⟨W, hW⟩ : ∃ W, ((w.alloc (.cells (IV.mk pl ck dr hd (.slice A4 m c4) tb ln (.slice A7 s c7)).cells 30)).alloc (.cells (IV.mk pl ck dr hd (.slice B4 m d4) tb ln (.slice B7 s d7)).cells 30)) = W := ⟨_, rfl⟩
  rw [hW] at hX hY hbw
  have H := Lib.hid (And.intro hX (And.intro hY (And.intro hbw (And.intro h4 (And.intro k4 (And.intro h7 (And.intro k7 (And.intro e7 hW))))))))
  clear hX hY hbw h4 k4 h7 k7 e7 hW
  unfold IV.cells
  dsimp only
  go_enter Tryz.func11, Tryz.ntmps11
  go_upto_region 1 with fail
  have eW := H.out.2.2.2.2.2.2.2.2
  unfold IV.cells at eW
  dsimp only at eW
  rw [eW]
  clear eW
  have i0 : W.cell? ⟨w.heap.size, 0, none⟩ = some (.bool pl) := H.out.1.cell 0
  have j0 : W.cell? ⟨w.heap.size + 1, 0, none⟩ = some (.bool pl) := H.out.2.1.cell 0
  have i1 : W.cell? ⟨w.heap.size, 1, none⟩ = some (.int .i64 (ck : Int)) := H.out.1.cell 1
  have j1 : W.cell? ⟨w.heap.size + 1, 1, none⟩ = some (.int .i64 (ck : Int)) := H.out.2.1.cell 1
  have i2 : W.cell? ⟨w.heap.size, 2, none⟩ = some (.int .i64 (dr : Int)) := H.out.1.cell 2
  have j2 : W.cell? ⟨w.heap.size + 1, 2, none⟩ = some (.int .i64 (dr : Int)) := H.out.2.1.cell 2
  have i3 : W.cell? ⟨w.heap.size, 3, none⟩ = some (.int .u32 (hd : Int)) := H.out.1.cell 3
  have j3 : W.cell? ⟨w.heap.size + 1, 3, none⟩ = some (.int .u32 (hd : Int)) := H.out.2.1.cell 3
  have i4 : W.cell? ⟨w.heap.size, 4, none⟩ = some (.slice A4 m c4) := H.out.1.cell 4
  have j4 : W.cell? ⟨w.heap.size + 1, 4, none⟩ = some (.slice B4 m d4) := H.out.2.1.cell 4
  have i5 : W.cell? ⟨w.heap.size, 5, none⟩ = some (.int .u32 (tb : Int)) := H.out.1.cell 5
  have j5 : W.cell? ⟨w.heap.size + 1, 5, none⟩ = some (.int .u32 (tb : Int)) := H.out.2.1.cell 5
  have i6 : W.cell? ⟨w.heap.size, 6, none⟩ = some (.int .u32 (ln : Int)) := H.out.1.cell 6
  have j6 : W.cell? ⟨w.heap.size + 1, 6, none⟩ = some (.int .u32 (ln : Int)) := H.out.2.1.cell 6
  have i7 : W.cell? ⟨w.heap.size, 7, none⟩ = some (.slice A7 s c7) := H.out.1.cell 7
  have j7 : W.cell? ⟨w.heap.size + 1, 7, none⟩ = some (.slice B7 s d7) := H.out.2.1.cell 7
  have hf : ∀ V, Below W.heap.size W V → (V.cell? ⟨w.heap.size, 4, none⟩ = some (.slice A4 m c4) ∧ V.cell? ⟨w.heap.size + 1, 4, none⟩ = some (.slice B4 m d4) ∧ RdS V w.heap.size A4 m c4 l ∧ RdS V w.heap.size B4 m d4 l) ∧ (V.cell? ⟨w.heap.size, 7, none⟩ = some (.slice A7 s c7) ∧ V.cell? ⟨w.heap.size + 1, 7, none⟩ = some (.slice B7 s d7) ∧ RdL V w.heap.size A7 s c7 l7 ∧ RdL V w.heap.size B7 s d7 r7) := fun V hV => by
    have hX := H.out.1.below hV H.out.1.lt
    have hY := H.out.2.1.below hV H.out.2.1.lt
    have hb : Below w.heap.size w V := H.out.2.2.1.trans (hV.mono H.out.2.2.1.size)
    exact ⟨⟨hX.cell 4, hY.cell 4, H.out.2.2.2.1.below hb, H.out.2.2.2.2.1.below hb⟩, ⟨hX.cell 7, hY.cell 7, H.out.2.2.2.2.2.1.below hb, H.out.2.2.2.2.2.2.1.below hb⟩⟩
  have HF := Lib.hid hf
  clear hf
  go_wp2_with fail
  clear i0 i1 i2 i3 i4 i5 i6 i7 j0 j1 j2 j3 j4 j5 j6 j7
  go_loopw [5] (fun i wr => ∃ j : Nat, j ≤ m ∧ i = .int .i64 (j : Int) ∧ Below W.heap.size W wr) (fun i _ => m - (intOf i).toNat)
  case atStart => exact ⟨0, Nat.zero_le _, rfl, Below.refl _ _⟩
  case round =>
    obtain ⟨j, hj, rfl, hb⟩ := hrel
    obtain ⟨⟨i4, j4, r4, q4⟩, ⟨i7, j7, _, _⟩⟩ := HF.out wr hb
    by_cases hlt : j < m
    · have hlt' : (j : Int) < m := by omega
      obtain ⟨b, o, ⟨x1, x2⟩, rfl, hbB, hx, p1, p2⟩ := r4.get hlt
      obtain ⟨b', o', ⟨y1, y2⟩, rfl, hbB', hy, t1, t2⟩ := q4.get hlt
      rw [hx] at hy
      injection hy with hy
      injection hy with hy1 hy2
      subst hy1 hy2
      dsimp only at p1 p2 t1 t2
      have HO := Lib.hid hb
      clear hb r4 q4 hx i7 j7
      go_upto_region 6 with fail
      go_quiet (fail)
      go_wp2_with fail
      go_roundw
      case rel => exact ⟨j + 1, by omega, by go_num, below_drewN HO.out _⟩
      case measure => simp [intOf]; omega
    · obtain rfl : j = m := by omega
      have hge : ¬ (j : Int) < j := by omega
      have HO := Lib.hid hb
      clear hb r4 q4 j4
      go_wp2_with fail
      obtain ⟨wo, hwo⟩ : ∃ x, x = wr := ⟨_, rfl⟩
      subst hwo
      clear i4 i7 j7
      go_loopw [6] (fun i wr => ∃ j : Nat, j ≤ s ∧ i = .int .i64 (j : Int) ∧ Below W.heap.size W wr) (fun i _ => s - (intOf i).toNat)
      case atStart => exact ⟨0, Nat.zero_le _, rfl, HO.out⟩
      case round =>
        obtain ⟨k, hk, rfl, hb⟩ := hrel
        obtain ⟨_, ⟨i7, j7, r7', q7⟩⟩ := HF.out wr hb
        by_cases hlt : k < s
        · have hlt' : (k : Int) < s := by omega
          obtain ⟨b, o, A, n, c, xs, rfl, hbB, hlk, p1, hrd⟩ := r7'.get hlt
          obtain ⟨b', o', A', n', c', xs', rfl, hbB', hlk', t1, hrd'⟩ := q7.get hlt
          have e := congrArg (fun l => l[k]?) H.out.2.2.2.2.2.2.2.1
          simp only [List.getElem?_map, hlk, hlk', Option.map_some, Option.some.injEq] at e
          subst e
          have HQ := Lib.hid (And.intro hb (And.intro hrd hrd'))
          clear hb hrd hrd' r7' q7 hlk hlk'
          go_upto_region 11 with fail
          go_quiet ((go_at_call 13; exact Calls.quiet_of_same (eqbytes_same _ _ _ _ _ _ _ _ _ _ (HQ.out.2.1.keep fun _ _ => rfl) (HQ.out.2.2.keep fun _ _ => rfl))))
          go_wp2_with fail
          go_roundw
          case rel => exact ⟨k + 1, by omega, by go_num, below_drewN HQ.out.1 _⟩
          case measure => simp [intOf]; omega
        · obtain rfl : k = s := by omega
          have hge : ¬ (k : Int) < k := by omega
          have HQ := Lib.hid hb
          clear hb r7' q7 j7
          go_wp2_with fail
          go_ret
          exact ⟨by first | rfl | simp, H.out.2.2.1.trans (HQ.out.mono H.out.2.2.1.size)⟩
end Go.Proofs.YtmpladnglfiejaaGreatDoor
end
