/- A range over the measure's iterator: the law. -/
import Derived.Test.YtmpladnglfiejaaGreatDoorMeR1
import Derived.Test.YtmpladnglfiejaaGreatDoorPF
namespace Go.Proofs.YtmpladnglfiejaaGreatDoor
open Go.RowKit Go.Shelf
attribute [local go_sem] Oper.semAt_some
set_option maxRecDepth 100000
set_option linter.unusedVariables false
set_option linter.unusedSimpArgs false
def postM (N : Nat) (I : List (Nat × Nat) → World → Prop) (xs : List (Nat × Nat)) (W : World) : Exit → Act → World → Prop
  | .normal, _, W' => KeepsFrom N W W' ∧ I xs W' ∧ KSec W W'
  | _, _, _ => False
theorem KSec.trans {a b c : World} (h1 : KSec a b) (h2 : KSec b c) : KSec a c := fun k cs hk => (h2 k cs ((h1 k cs hk).trans hk)).trans (h1 k cs hk)
theorem KSec.putObj {W : World} {l : Nat} {o : Obj} (o' : Obj) (hl : W.heap[l]? = some o) (ho : o.isCells = false) : KSec W (W.putObj l o') := fun k cs hk => putObj_other2 (fun e => by
  subst e
  rw [hl] at hk
  injection hk with hk
  subst hk
  cases ho)
theorem range_ranges {n : Nat} {ps : Array Tmp} {assign body : Code} {Q : Exit → Act → World → Prop} {a : Act} {w : World} {gop : Operand} (h1 : 3 ≤ n) (Pn Bn : Nat)
    (hg : a.eval gop = .func (.func 36) #[] #[.pointer (some ⟨Pn, 0, none⟩), .pointer (some ⟨Bn, 0, none⟩)]) (hps : ps.size = 2)
    (C : IV) (Ab : Option Addr) (m c : Nat) (L S : List (Nat × Nat)) (hsec : C.secs = .slice Ab m c) (hm : m ≤ 1048576)
    (hS : ∀ S', S'.Perm L → Pe.Rising S' → S' = S) (N last : Nat) (hlast : (N : Int) - (C.length : Int) = (last : Int))
    (hck : C.check ≤ 4294967296) (hdr : C.dir ≤ 4294967296) (hhd : C.headers < 4294967296) (hlen : C.length < 4294967296) (hNl : N ≤ 4294967296) (hSl : ∀ s ∈ S, s.1 < 4294967296 ∧ s.2 < 4294967296)
    (I : List (Nat × Nat) → World → Prop) (hIa : ∀ s X Y, I s X → Below X.heap.size X Y → I s Y)
    (hIp : ∀ s (W : World) (l : Nat) (o o' : Obj), I s W → w.heap.size ≤ l → W.heap[l]? = some o → o.isCells = false → I s (W.putObj l o'))
    (hIb : ∀ s X, I s X → (∀ o, X.cell? ⟨Pn, o, none⟩ = C.cells[o]?) ∧ X.cell? ⟨Bn, 0, none⟩ = some (.int .i64 (N : Int)) ∧ RdS X X.heap.size Ab m c L) (h0 : I [] w)
    (Ax : Nat × Nat → Act → Prop)
    (hassign : ∀ (l : Nat) (v : Nat × Nat) (W : World) (K : Act → World → Prop), (∀ a', Ax v a' → K a' W) →
      assign.wpIn (Fence.wide.inRound l) (n - 1 - 1) Tryz.prog (Exit.then K (fun _ _ _ => False)) { tmps := (ps.zip (pairV v)).foldl (fun t (p, v) => t.setIfInBounds p v) a.tmps, defers := [] } W)
    (hbody : ∀ (l : Nat) (pre : List (Nat × Nat)) (v : Nat × Nat) (post : List (Nat × Nat)) (a' : Act) (W : World), w.heap.size ≤ l → I pre W → pre ++ v :: post = rngs C.check C.dir C.headers last S → Ax v a' →
      body.wpIn (Fence.wide.inRound l) (n - 1 - 1) Tryz.prog (postM w.heap.size I (pre ++ [v]) W) a' W)
    (hdone : ∀ (D : Nat) (W : World), w.heap.size ≤ D → I (rngs C.check C.dir C.headers last S) W → W.heap[D]? = some (.deferred (some [])) → Q .normal { a with defers := { target := .collected D, args := #[] } :: a.defers } W) :
    (Code.rangeFunc gop ps assign body).wpIn Fence.wide n Tryz.prog Q a w := by
  refine wpIn_rangeFunc ?_
  intro fn hfn
  obtain ⟨rec, hrec⟩ : ∃ rec : LoopState → Option Code → Loop, rec = fun st pe => { state := st, pending := pe, fn, tmps := a.tmps, params := ps, assign, body, defers := w.heap.size } := ⟨_, rfl⟩
  obtain ⟨W1, hW1⟩ : ∃ W1, (w.alloc (.deferred (some []))).alloc (.loop (rec .ready none)) = W1 := ⟨_, rfl⟩
  have hL1 : W1.heap[w.heap.size + 1]? = some (.loop (rec .ready none)) := by
    rw [← hW1]; have := World.alloc_heap_new (w.alloc (.deferred (some []))) (.loop (rec .ready none)); rwa [World.size_alloc] at this
  have hK1 : W1.heap[w.heap.size]? = some (.deferred (some [])) := by
    rw [← hW1]; exact (Below.heap_alloc _ _ _ (by simp)).trans (World.alloc_heap_new w _)
  have hI1 : I [] W1 := by rw [← hW1]; exact hIa _ _ _ (hIa _ _ _ h0 ((Below.refl _ _).alloc (Nat.le_refl _) _)) ((Below.refl _ _).alloc (Nat.le_refl _) _)
  refine ⟨w.heap.size + 1, [{ target := .collected w.heap.size, args := #[] }], W1, { target := .fn (.func 36) #[.pointer (some ⟨Pn, 0, none⟩), .pointer (some ⟨Bn, 0, none⟩)], args := #[.func (.yield (w.heap.size + 1)) #[] #[]] }, W1, 36,
    #[.func (.yield (w.heap.size + 1)) #[] #[]] ++ #[.pointer (some ⟨Pn, 0, none⟩), .pointer (some ⟨Bn, 0, none⟩)], W1, ?_, ?_, ?_, ?_, fun _ => by omega, ?_⟩
  · rw [← hW1, hrec]; exact run_enterLoop_outer _ _ _ _ _
  · simp only [resolve, hg]
    simp [go_sem]
  · intro f' _; trivial
  · simp [invoke, go_sem]
  · refine (rangesM_in (n - 1) (by omega) (w.heap.size + 1) Pn Bn C Ab m c L S hsec hm hS N last hlast hck hdr hhd hlen hNl hSl
      (fun pre W => I pre W ∧ W.heap[w.heap.size + 1]? = some (.loop (rec .ready none)) ∧ W.heap[w.heap.size]? = some (.deferred (some [])))
      (fun s X h => hIb s X h.1) ?hJ ?round W1 ⟨hI1, hL1, hK1⟩).mono ?behind
    case hJ =>
      rintro s X Y ⟨hi, hl, hk⟩ hb
      exact ⟨hIa _ _ _ hi hb, (hb.block _ (Array.getElem?_eq_some_iff.1 hl).1).trans hl, (hb.block _ (Array.getElem?_eq_some_iff.1 hk).1).trans hk⟩
    case round =>
      rintro pre v post W ⟨hi, hlW, hkW⟩ hpre
      have hy := run_yield (P := Tryz.prog) (args := pairV v) hlW (by rw [hrec]; exact hps.symm)
      rw [hrec] at hy
      refine ⟨fn, _, assign, body, hy, roundIn_of_wpIn hfn (hassign _ v W _ ?_)⟩
      clear hy
      intro a' hax
      have hltW : w.heap.size + 1 < W.heap.size := (Array.getElem?_eq_some_iff.1 hlW).1
      refine ⟨_, run_beginRound hlW (by rw [hrec]), ?_⟩
      have hl2 : (W.putObj (w.heap.size + 1) (.loop { rec .ready none with state := .busy })).heap[w.heap.size + 1]? = some (.loop { rec .ready none with state := .busy }) := World.putObj_heap_same hltW
      have hk2 : (W.putObj (w.heap.size + 1) (.loop { rec .ready none with state := .busy })).heap[w.heap.size]? = some (.deferred (some [])) := (putObj_other2 (by omega)).trans hkW
      refine wpIn_mono (hbody _ pre v post a' _ (by omega) (hIp _ _ _ _ _ hi (by omega) hlW rfl) hpre hax) ?_
      rintro e a3 W3 hp
      cases e with
      | normal =>
        obtain ⟨hk3, hi3, hS3⟩ := hp
        have hl3 := hk3.same _ _ (by omega) hl2 rfl
        have hk4 := hk3.same _ _ (Nat.le_refl _) hk2 rfl
        have hr3 : (Instr.endRound (w.heap.size + 1) none).run Tryz.prog W3 = .ok (.bool true) (W3.putObj (w.heap.size + 1) (.loop (rec .ready none))) := by
          have := run_endRound (P := Tryz.prog) none hl3
          rw [hrec] at this ⊢
          exact this
        refine ⟨_, _, hr3, rfl, ⟨hIp _ _ _ _ _ hi3 (by omega) hl3 rfl, World.putObj_heap_same (Array.getElem?_eq_some_iff.1 hl3).1, (putObj_other2 (by omega)).trans hk4⟩, ((KSec.putObj _ hlW rfl).trans hS3).trans (KSec.putObj _ hl3 rfl)⟩
      | _ => exact hp.elim
    case behind =>
      rintro e W2 ⟨⟨v, rfl⟩, hi, hl, hk⟩
      have hend := run_endLoop (P := Tryz.prog) hl (by rw [hrec]; simp)
      rw [hrec] at hend
      exact ⟨none, _, hend, hdone _ _ (Nat.le_refl _) (hIp _ _ _ _ _ hi (by omega) hl rfl) ((putObj_other2 (by omega)).trans hk)⟩
end Go.Proofs.YtmpladnglfiejaaGreatDoor
