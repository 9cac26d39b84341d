/- Lists of elements in memory of their own. -/
import Derived.Test.YtnfngnmajjkdbaaDoorEach2
import Derived.Test.YtnfngnmajjkdbaaDoorThr
import Derived.Test.YtnfngnmajjkdbaaDoorMem2
import Derived.Test.YtnfngnmajjkdbaaDoorDer3
namespace Go.Proofs.YtnfngnmajjkdbaaDoor
open Go.RowKit
set_option maxRecDepth 100000

theorem elem_info : (Tryd.prog.info? 30).map (fun i => (i.zero, i.size, i.bytes)) = some (some (.agg #[.int .u8 0, .slice none 0 0, .slice none 0 0]), 3, 56) := by kernel_rfl

/-- An element in memory: its tag, the slices of its body and of its raw bytes, what they read as. -/
structure EI where
  t : UInt8
  vb : Value
  body : List UInt8
  vr : Value
  raw : List UInt8
def EI.cells (x : EI) : List Value := [.int .u8 (x.t.toNat : Int), x.vb, x.vr]
def EI.dat (x : EI) : UInt8 × List UInt8 × List UInt8 := (x.t, x.body, x.raw)
def EI.rows (x : EI) : List (Value × List UInt8) := [(x.vb, x.body), (x.vr, x.raw)]

/-- No two of the rows lie in one block. -/
def Apart' (l : List (Value × List UInt8)) : Prop := l.Pairwise fun a b => ∀ g, a.1.ownBlock = some g → b.1.ownBlock ≠ some g

/-- v is a row of elements of the call's own; so is each one's body and raw bytes; no two in one block. -/
def OwnE (w : World) (lo hi : Nat) (v : Value) (l : List EI) : Prop :=
  OwnC 30 3 w lo hi v l.length (l.flatMap EI.cells) ∧ (∀ p ∈ l.flatMap EI.rows, OwnB w lo hi p.1 p.2) ∧ Apart' (l.flatMap EI.rows)

/-- Every block of cells from lo on, none frozen, is as it was. -/
def KeepRows (lo : Nat) (w w' : World) : Prop := ∀ g cs t, lo ≤ g → w.heap[g]? = some (.cells cs t (0, 0)) → w'.heap[g]? = some (.cells cs t (0, 0))

theorem OwnB.keepRows {w w' : World} {lo hi : Nat} {v : Value} {xs : List UInt8} (h : OwnB w lo hi v xs) (hk : KeepRows lo w w') : OwnB w' lo hi v xs := by
  refine ⟨⟨h.1.1, ?_⟩, h.2⟩
  rcases h.1.2 with e | ⟨g, cap, cur, rfl, hb, hg, r⟩
  · exact .inl e
  · exact .inr ⟨g, cap, cur, rfl, hb, hk _ _ _ hb hg, r⟩
theorem OwnC.keepRows {e : TypeId} {size n : Nat} {w w' : World} {lo hi : Nat} {v : Value} {cs : List Value} (h : OwnC e size w lo hi v n cs) (hk : KeepRows lo w w') : OwnC e size w' lo hi v n cs := by
  refine ⟨⟨h.1.1, ?_⟩, h.2⟩
  rcases h.1.2 with e | ⟨g, cap, cur, rfl, hb, hg, r⟩
  · exact .inl e
  · exact .inr ⟨g, cap, cur, rfl, hb, hk _ _ _ hb hg, r⟩
theorem OwnE.keepRows {w w' : World} {lo hi : Nat} {v : Value} {l : List EI} (h : OwnE w lo hi v l) (hk : KeepRows lo w w') : OwnE w' lo hi v l :=
  ⟨h.1.keepRows hk, fun p hp => (h.2.1 p hp).keepRows hk, h.2.2⟩
theorem OwnE.mono {w : World} {lo hi lo' hi' : Nat} {v : Value} {l : List EI} (h : OwnE w lo hi v l) (h1 : lo' ≤ lo) (h2 : hi ≤ hi') : OwnE w lo' hi' v l :=
  ⟨h.1.mono h1 h2, fun p hp => (h.2.1 p hp).mono h1 h2, h.2.2⟩
theorem OwnE.nil_ {w : World} {lo hi : Nat} : OwnE w lo hi (.slice none 0 0) [] := ⟨OwnC.nil_, fun p hp => by simp at hp, List.Pairwise.nil⟩
theorem KeepRows.below {lo B : Nat} {w w' : World} (h : Below B w w') (hB : w.heap.size ≤ B) : KeepRows lo w w' := by
  intro g cs t _ hg
  have hlt := (Array.getElem?_eq_some_iff.1 hg).1
  exact (h.block g (by omega)).trans hg
theorem KeepRows.alloc {lo : Nat} (w : World) (o : Obj) : KeepRows lo w (w.alloc o) := KeepRows.below ((Below.refl _ _).alloc (Nat.le_refl _) o) (Nat.le_refl _)
theorem KeepRows.setCell {lo : Nat} {w : World} {p : Addr} (hp : p.block < lo) (u : Value) : KeepRows lo w (w.setCell p u) := by
  intro g cs t h1 hg
  exact (Below.heap_setCell w p u g (by omega)).trans hg
theorem KeepRows.put {lo : Nat} {w : World} {D : Nat} {o : Obj} (o' : Obj) (hD : w.heap[D]? = some o) (ho : o.isCells = false) : KeepRows lo w (w.putObj D o') := by
  intro g cs t _ hg
  have hne : g ≠ D := by rintro rfl; rw [hg] at hD; cases hD; cases ho
  exact (putObj_other hne).trans hg
theorem KeepRows.trans {lo : Nat} {a b c : World} (h : KeepRows lo a b) (h' : KeepRows lo b c) : KeepRows lo a c := fun g cs t h1 h2 => h' g cs t h1 (h g cs t h1 h2)
theorem KeepRows.ownX {X Y : World} {row : Option Nat} {lo Bn N : Nat} (hB : Bn < lo) (hg : X.grownBy Y row) (hr : ∀ r, row = some r → r = Bn ∨ (N ≤ r ∧ ∃ o : Obj, X.heap[r]? = some o ∧ o.isCells = false)) : KeepRows lo X Y := by
  intro g cs t h1 h2
  have hlt := (Array.getElem?_eq_some_iff.1 h2).1
  refine (hg.block g hlt fun e => ?_).trans h2
  rcases hr g e.symm with rfl | ⟨_, o, ho, hc⟩
  · omega
  · rw [h2] at ho; cases ho; cases hc

/-- One element more: its rows lie behind all that was there. -/
theorem OwnE.snoc {w w' : World} {lo : Nat} {v v' : Value} {l : List EI} {x : EI} {mid : Nat} (h : OwnE w lo mid v l) (hx : Owns w mid w.heap.size x.rows)
    (hown : OwnC 30 3 w' lo w'.heap.size v' (l.length + 1) (l.flatMap EI.cells ++ x.cells)) (hg : w.grownBy w' v.ownBlock) (hlo : lo ≤ mid) : OwnE w' lo w'.heap.size v' (l ++ [x]) := by
  have hrow : ∀ (p : Value × List UInt8) (a b : Nat), OwnB w a b p.1 p.2 → b ≤ w.heap.size → OwnB w' a b p.1 p.2 := by
    intro p a b hp hb
    refine ⟨⟨hp.1.1, ?_⟩, hp.2⟩
    rcases hp.1.2 with e | ⟨g, cap, cur, e, hb', hg', r⟩
    · exact .inl e
    · refine .inr ⟨g, cap, cur, e, hb', (hg.block g ((Array.getElem?_eq_some_iff.1 hg').1) fun e' => ?_).trans hg', r⟩
      rcases h.1.1.2 with ⟨rfl, _⟩ | ⟨g2, cap2, cur2, rfl, hb2, hg2, _⟩
      · simp [Value.ownBlock] at e'
      · simp only [Value.ownBlock, Option.some.injEq] at e'
        subst e'
        rw [hg2] at hg'
        injection hg' with hg'
        injection hg' with _ ht
        revert ht
        decide
  obtain ⟨m1, h1, hb1, m2, h2, hb2, h3⟩ := hx
  have hm : m2 ≤ w.heap.size := h3
  have hsz := hg.size
  refine ⟨by simpa using hown, ?_, ?_⟩
  · intro p hp
    rw [List.flatMap_append, List.mem_append] at hp
    rcases hp with hp | hp
    · have := h.2.1 p hp
      exact (hrow p _ _ this (by omega)).mono (Nat.le_refl _) (by omega)
    · simp only [List.flatMap_cons, List.flatMap_nil, List.append_nil, EI.rows, List.mem_cons, List.not_mem_nil, or_false] at hp
      rcases hp with rfl | rfl
      · exact (hrow (x.vb, x.body) _ _ hb1 (by omega)).mono hlo (by omega)
      · exact (hrow (x.vr, x.raw) _ _ hb2 (by omega)).mono (by omega) (by omega)
  · unfold Apart'
    rw [List.flatMap_append, List.pairwise_append]
    refine ⟨h.2.2, ?_, ?_⟩
    · simp only [List.flatMap_cons, List.flatMap_nil, List.append_nil, EI.rows, List.pairwise_cons, List.mem_cons, List.not_mem_nil, or_false, forall_eq, List.Pairwise.nil, and_true, false_implies, implies_true]
      intro g e1 e2
      have a1 := hb1.2 g e1
      have a2 := (hb2.1.lt g e2).1
      omega
    · intro a ha b hb g e1 e2
      have a1 := (h.2.1 a ha).2 g e1
      simp only [List.flatMap_cons, List.flatMap_nil, List.append_nil, EI.rows, List.mem_cons, List.not_mem_nil, or_false] at hb
      rcases hb with rfl | rfl
      · have a2 := (hb1.1.lt g e2).1; omega
      · have a2 := (hb2.1.lt g e2).1; omega

theorem reads_three (w : World) (t : TypeId) (a b c : Value) : Reads (w.alloc (.cells #[a, b, c] t)) (w.heap.size + 1) 3 (some ⟨w.heap.size, 0, none⟩) 1 [a, b, c] := by
  refine ⟨rfl, fun _ => ⟨_, rfl, by simp, fun j x hx => ?_⟩⟩
  rw [Addr.add_lit]
  have := (Blk.new w t #[a, b, c]).cell (0 + j)
  rw [this, Nat.zero_add]
  simpa using hx

/-- append, as one step of a region inside a fence. -/
theorem stepIn_appC {F : Fence} {N : Nat} {P : Program} {w : World} {ops : Array Oper} {o : Oper} {a : Act} {K : Act → World → Prop} {Q : Exit → Act → World → Prop} {E : Prop} (hgd : o.guard = none) (s x : Operand) (t : TypeId)
    (ho : o.op = .call { callee := .builtin .append, args := #[s, x], argTypes := #[t, t] })
    (e : TypeId) (z : Value) (size bytes : Nat) (hinfo : (P.info? e).map (fun i => (i.zero, i.size, i.bytes)) = some (some z, size, bytes)) (ht : P.underlying t = some (.slice e)) (hzs : z.cells.size = size) (hsz : 0 < size)
    (lo hi : Nat) (v : Value) (n : Nat) (xs : List Value) (hs : a.eval s = v) (hown : OwnC e size w lo hi v n xs) (hlo : lo ≤ w.heap.size)
    (B : Nat) (A : Option Addr) (m c : Nat) (news : List Value) (hx : a.eval x = .slice A m c) (hr : Reads w B size A m news) (h1 : ∀ u ∈ news, u.oneCell' = true) (h63 : n + m ≤ 9223372036854775807) (hlen : (n + m) * bytes ≤ 140737488355328)
    (h : ∀ v' w', OwnC e size w' lo w'.heap.size v' (n + m) (xs ++ news) → w.grownBy w' v.ownBlock → (v'.ownBlock = v.ownBlock ∨ v'.ownBlock = some w.heap.size) → Below lo w w' → K (a.put o.dst v') w') :
    if Region.wanted o (yielded ops a.tmps) = true then Oper.wpIn F N P o a w K Q else E := by
  have hw : Region.wanted o (yielded ops a.tmps) = true := by simp [Region.wanted, hgd]
  rw [if_pos hw]
  obtain ⟨i0, hi0, hz0, hz1, hz2⟩ := info_parts hinfo
  obtain ⟨v', w', hrun, g1, g2, g3⟩ := run_append_any (P := P) w lo t o.type e i0 z size bytes ht hi0 hz0 hz1 hz2 hzs hsz v n xs hown.1 B A m c news hr h1 (by simp only [maxLen]; omega) hlen hlo
  unfold Oper.wpIn
  refine ⟨?_, ?_⟩
  · simp [Oper.about, ho, resolve, Target.leads, Sem.run_pure]
  · rw [Oper.semAt_plain F _ _ (by rw [ho]; intro c hc'; cases hc')]
    simp [execOp, ho, resolve, invoke, builtin, hs, hx, hrun, Result.andThen]
    exact h v' w' (OwnC.of g1) g2 g3 ((Below.refl _ _).grown g2 hlo fun k hk => (hown.1.lt k hk).1)
end Go.Proofs.YtnfngnmajjkdbaaDoor
