/- Laws for Brought's loops. -/
import Derived.Test.YtedlpcioegbmfaaDoorPD
import Derived.Test.YtedlpcioegbmfaaDoorPG
import Derived.Test.YtedlpcioegbmfaaDoorPF
import Derived.Test.YtedlpcioegbmfaaDoorPE
import Derived.Test.YtedlpcioegbmfaaDoorPB
import Derived.Great.BuildSlice
namespace Go.Proofs.YtedlpcioegbmfaaDoor
open Go.RowKit
set_option maxRecDepth 100000
set_option linter.unusedVariables false
set_option linter.unusedSimpArgs false
theorem step_appC {P : Program} {w : World} {ops : Array Oper} {o : Oper} {a : Act} {K : Act → World → Prop} {Q : Exit → Act → World → Prop} {E : Prop} (hgd : o.guard = none) (s x : Operand) (t : TypeId)
    (ho : o.op = .call { callee := .builtin .append, args := #[s, x], argTypes := #[t, t] })
    (e : TypeId) (z : Value) (size bytes : Nat) (hinfo : (P.info? e).map (fun i => (i.zero, i.size, i.bytes)) = some (some z, size, bytes)) (ht : P.underlying t = some (.slice e)) (hzs : z.cells.size = size) (hsz : 0 < size)
    (lo hi : Nat) (v : Value) (n : Nat) (xs : List Value) (hs : a.eval s = v) (hown : OwnC e size w lo hi v n xs) (hlo : lo ≤ w.heap.size)
    (B : Nat) (A : Option Addr) (m c : Nat) (news : List Value) (hx : a.eval x = .slice A m c) (hr : Reads w B size A m news) (h1 : ∀ u ∈ news, u.oneCell' = true) (h63 : n + m ≤ 9223372036854775807) (hlen : (n + m) * bytes ≤ 140737488355328)
    (h : ∀ v' w', OwnC e size w' lo w'.heap.size v' (n + m) (xs ++ news) → w.grownBy w' v.ownBlock → (v'.ownBlock = v.ownBlock ∨ v'.ownBlock = some w.heap.size) → Below lo w w' → K (a.put o.dst v') w') :
    if Region.wanted o (yielded ops a.tmps) = true then Oper.wp P o a w K Q else E := by
  obtain ⟨i0, hi0, hz0, hz1, hz2⟩ := info_parts hinfo
  refine step_append_any w hgd s x t ho lo e i0 z size bytes ht hi0 hz0 hz1 hz2 hzs hsz v n xs hs hown.1 B A m c news hx hr h1 (by simp only [maxLen]; omega) hlen hlo ?_
  intro v' w' h1 h2 h3
  exact h v' w' (OwnC.of h1) h2 h3 ((Below.refl _ _).grown h2 hlo fun k hk => (hown.1.lt k hk).1)
/-- What Brought answers. -/
def BrPost (s : Pe.Shape) (w : World) (e : Ending) (w' : World) : Prop := ∃ V' : ShV, e = .returned (.agg V'.cells) ∧ ShRd w' w'.heap.size V' (Pe.brought s) ∧ Below w.heap.size w w'
/-- What the walk knows, in the world wc: the shape's block, the result's block, the block p of the one that is made. -/
structure BX (V : ShV) (s : Pe.Shape) (w : World) (p : Nat) (Y : ShV) (wc : World) : Prop where
  sh : ShRd w w.heap.size V s
  atX : Bs wc w.heap.size V
  atR : Bs wc (w.heap.size + 1) ShV.zero
  atP : Bs wc p Y
  lt : w.heap.size + 2 ≤ p
  below : Below w.heap.size w wc
  plus : Y.plus = s.plus
  stub : RdV w w.heap.size Y.stub (s.stub.take 200)
  fill : RdV w w.heap.size Y.fill (s.fill.take 200)
  order : ∃ A n c, Y.order = .slice A n c ∧ RdI w w.heap.size A n c (s.order.take 20)
  behind : RdV w w.heap.size Y.behind (s.behind.take 500)
  nob : Y.bodies = .slice none 0 0
  nos : Y.sigs = .slice none 0 0
theorem load_rows {w : World} {ad : Addr} {v : Value} (h : w.cell? ad = some v) : (loadVar 23 ad).run Tryd.prog w = .ok v w := by simp [go_sem, h]
theorem F_min9 {Q : Exit → Act → World → Prop} {o : Oper} {a : Act} {w : World} {Mi : World → Prop} {R : World → World → Prop} {x y : Operand} {ts : Array TypeId} {u v r : Int} (ho : o.op = .call { callee := .builtin .min, args := #[x, y], argTypes := ts }) (hx : a.eval x = .int .i64 u) (hy : a.eval y = .int .i64 v) (hr : (if v < u then v else u) = r) (hM : Mi w) (hR : R w w) : o.wp Tryd.prog a w (RK o a w (.int .i64 r) Mi R) Q := by
  have hm : (#[x, y] : Array Operand).map a.eval = #[.int .i64 u, .int .i64 v] := by rw [← hx, ← hy]; simp
  refine F_val ?_ hM hR
  subst hr
  simp only [execOp, ho, resolve, hm]
  simp [go_sem]
  try (rw [Int.min_def]; split <;> split <;> omega)
theorem wp_store_cell {o : Oper} {a : Act} {w : World} {K : Act → World → Prop} {Q : Exit → Act → World → Prop} {x y : Operand} {g k n c : Nat} {A : Option Addr} {u : Value} (ho : o.op = .store 23 x y)
    (hx : a.eval x = .pointer (some ⟨g, k, none⟩)) (hy : a.eval y = .slice A n c) (hc : w.cell? ⟨g, k, none⟩ = some u) (hf : w.frozen? ⟨g, k, none⟩ = false) (h : K (a.put o.dst undef) (w.setCell ⟨g, k, none⟩ (.slice A n c))) : o.wp Tryd.prog a w K Q := by
  have hr : (storeVar 23 ⟨g, k, none⟩ (.slice A n c)).run Tryd.prog w = .ok () (w.setCell ⟨g, k, none⟩ (.slice A n c)) := by simp [go_sem, hc, hf]
  unfold Oper.wp execOp
  simp only [ho, hx, hy, Instr.storeAt, Instr.sureAddr, Sem.run_bind, Sem.run_pure, Result.andThen_ok, hr]
  exact h
theorem PK_of {P : Program} {o : Oper} {a : Act} {w : World} {v : Value} {Q : Exit → Act → World → Prop} {JJ : Bool → Nat → Value → World → Prop} {GG : Bool → World → Prop} {b : Bool} {i : Nat} (hd : o.dst ≠ none) (hJ : JJ b i v w) (hG : GG b w) (h : o.wp P a w (RK o a w v (fun _ => True) (fun x y => x = y)) Q) :
    o.wp P a w (fun a' w' => ∃ v, a' = a.put o.dst v ∧ (o.dst = none → v = undef) ∧ JJ b i v w' ∧ GG b w' ∧ ∀ j u, JJ b j u w → JJ b j u w') Q :=
  Oper.wp_mono (fun a' w' ⟨e, _, r⟩ => by subst r; exact ⟨v, e, fun h => absurd h hd, hJ, hG, fun _ _ h => h⟩) h
theorem wp_one {o : Oper} {a : Act} {w : World} {K : Act → World → Prop} {Q : Exit → Act → World → Prop} {x : Operand} {A : Option Addr} {n c : Nat} (ho : o.op = .buildSlice 23 1 #[(0, x)]) (hx : a.eval x = .slice A n c)
    (h : K (a.put o.dst (.slice (some ⟨w.heap.size, 0, none⟩) 1 1)) (w.alloc (.cells #[.slice A n c] 22))) : o.wp Tryd.prog a w K Q := by
  obtain ⟨i0, hi0, hz0, hz1, hz2⟩ := info_parts bs_info2
  refine wp_buildSlice 23 22 1 _ ho #[.slice A n c] i0 _ Tryd.underlying23 hi0 hz0 (by rw [hz1]; omega) (by rw [hz1]; omega) ?_ h
  rw [hz1]
  simp only [List.map_toArray, List.map_cons, List.map_nil, hx]
  exact Great.fill_flat [.slice A n c] _ (fun v hv => by obtain rfl := List.mem_singleton.1 hv; rfl) (by simp)
theorem Reads.oneAt {w : World} {q : Nat} {t : TypeId} {u : Value} {fr : Nat × Nat} (h : w.heap[q]? = some (.cells #[u] t fr)) : Reads w (q + 1) 1 (some ⟨q, 0, none⟩) 1 [u] := by
  refine ⟨rfl, fun _ => ⟨_, rfl, by simp, fun j x hx => ?_⟩⟩
  rw [Addr.add_lit]
  exact (cell_of_row _ q _ _ _ _ h).trans (by simpa using hx)
theorem XS.setCell {w : World} {lo p o : Nat} {v u : Value} {l : List (Value × List UInt8)} {cs : Array Value} {fr : Nat × Nat} (h : XS w lo v l) (hp : p < lo) (hg : w.heap[p]? = some (.cells cs 26 fr)) : XS (w.setCell ⟨p, o, none⟩ u) lo v l := by
  refine ⟨(h.1.setCell (p := ⟨p, o, none⟩) (.inl hp) u).mono (Nat.le_refl _) (by simp), fun q hq => (h.2 q hq).keep (by simp) fun g cs' fr' hgg => Below.heap_setCell _ _ _ g (fun e => ?_)⟩
  subst e
  have hgg := hg.symm.trans hgg
  injection hgg with hgg
  injection hgg with _ e2
  exact absurd e2 (by decide)
/-- The signatures so far. -/
structure B2 (p : Nat) (Y : ShV) (wm : World) (v : Value) (L : List (Value × List UInt8)) (wr : World) : Prop where
  row : XS wr wm.heap.size v L
  atP : Bs wr p { Y with sigs := v }
  grown : wm.grownBy wr (some p)
theorem B2.step {p : Nat} {Y : ShV} {wm wr w6 : World} {v v6 : Value} {L L' : List (Value × List UInt8)} (h : B2 p Y wm v L wr) (hp : p < wm.heap.size) (hb : Below wm.heap.size wr w6) (ho : XS w6 wm.heap.size v6 L') : B2 p Y wm v6 L' (w6.setCell ⟨p, 6, none⟩ v6) := by
  have hgs := h.grown.size
  have hs6 := hb.size
  have hk : ∀ k, k < wm.heap.size → w6.heap[k]? = wr.heap[k]? := fun k hk => hb.block k hk
  have hP : Blk w6 p 26 (ShV.cells { Y with sigs := v }) := (hk p hp).trans h.atP
  refine ⟨ho.setCell hp hP, hP.set_ 6 v6, ?_⟩
  refine ⟨hb.os.trans h.grown.os, hb.tape.trans h.grown.tape, hb.output.trans h.grown.output, by simp; omega, fun k h1 h2 => ?_⟩
  rw [Below.heap_setCell _ _ _ k (fun e => h2 (by rw [e]))]
  exact (hk k h1).trans (h.grown.block k h1 h2)
theorem B2.drewN {p : Nat} {Y : ShV} {wm wr : World} {v : Value} {L : List (Value × List UInt8)} (h : B2 p Y wm v L wr) (n : Nat) : B2 p Y wm v L (wr.drewN n) :=
  ⟨h.row.below (below_drewN (Below.refl _ _) n), h.atP, ⟨h.grown.os, h.grown.tape, h.grown.output, h.grown.size, h.grown.block⟩⟩
/-- What the slots of region 12 hold. -/
def B12J (X k : Nat) (V6 A' B' : Value) (e : Addr) (j n m : Nat) (zs : List UInt8) (b : Bool) : Nat → Value → World → Prop
  | 0, u, _ => u = .slice (some ⟨k, 0, none⟩) 1 1
  | 1, u, _ => u = .pointer (some ⟨X, 6, none⟩)
  | 2, u, _ => u = V6
  | 3, u, _ => u = .int .i64 (j : Int)
  | 4, u, _ => u = .pointer (some e)
  | 5, u, _ => u = A'
  | 6, u, _ => u = .pointer (some ⟨X, 6, none⟩)
  | 7, u, _ => u = V6
  | 8, u, _ => u = .int .i64 (j : Int)
  | 9, u, _ => u = .pointer (some e)
  | 10, u, _ => u = A'
  | 11, u, _ => u = .int .i64 (n : Int)
  | 12, u, _ => u = .int .i64 (m : Int)
  | 13, u, _ => u = B'
  | 14, u, w => b = true ∧ OwnB w k w.heap.size u zs
  | _, _, _ => True
theorem B12J.turn {X k : Nat} {V6 A' B' : Value} {e : Addr} {j n m : Nat} {zs : List UInt8} (w w' : World) : ∀ (i : Nat) (u : Value), B12J X k V6 A' B' e j n m zs false i u w → B12J X k V6 A' B' e j n m zs true i u w' := by
  intro i u h
  unfold B12J at h ⊢
  split <;> first
    | trivial
    | exact h
    | exact nomatch h.1
/-- How the world stands in region 5. -/
def B5G (lo : Nat) (wr : World) (b : Bool) (w : World) : Prop := Below (if b then lo else wr.heap.size) wr w
theorem B5G.low {lo : Nat} {wr w : World} {b : Bool} (h : B5G lo wr b w) (hl : lo ≤ wr.heap.size) : Below lo wr w := by
  unfold B5G at h
  cases b
  · exact h.mono hl
  · exact h

end Go.Proofs.YtedlpcioegbmfaaDoor
