/- Joined of: PeBL PeBT2 PeBT. -/
import Derived.Test.YtmpladnglfiejaaGreatDoorPD
import Derived.Test.YtmpladnglfiejaaGreatDoorPG
import Derived.Test.YtmpladnglfiejaaGreatDoorPF
import Derived.Test.YtmpladnglfiejaaGreatDoorPE
import Derived.Test.YtmpladnglfiejaaGreatDoorPB
import Derived.Great.BuildSlice
section
/- Laws for Brought's loops. -/
namespace Go.Proofs.YtmpladnglfiejaaGreatDoor
open Go.RowKit
set_option maxRecDepth 100000
set_option linter.unusedVariables false
set_option linter.unusedSimpArgs false
theorem step_appC {P : Program} {w : World} {ops : Array Oper} {o : Oper} {a : Act} {K : Act → World → Prop} {Q : Exit → Act → World → Prop} {E : Prop} (hgd : o.guard = none) (s x : Operand) (t : TypeId)
    (ho : o.op = .call { callee := .builtin .append, args := #[s, x], argTypes := #[t, t] })
    (e : TypeId) (z : Value) (size bytes : Nat) (hinfo : (P.info? e).map (fun i => (i.zero, i.size, i.bytes)) = some (some z, size, bytes)) (ht : P.underlying t = some (.slice e)) (hzs : z.cells.size = size) (hsz : 0 < size)
    (lo hi : Nat) (v : Value) (n : Nat) (xs : List Value) (hs : a.eval s = v) (hown : OwnC e size w lo hi v n xs) (hlo : lo ≤ w.heap.size)
    (B : Nat) (A : Option Addr) (m c : Nat) (news : List Value) (hx : a.eval x = .slice A m c) (hr : Reads w B size A m news) (h1 : ∀ u ∈ news, u.oneCell' = true) (h63 : n + m ≤ 9223372036854775807) (hlen : (n + m) * bytes ≤ 140737488355328)
    (h : ∀ v' w', OwnC e size w' lo w'.heap.size v' (n + m) (xs ++ news) → w.grownBy w' v.ownBlock → (v'.ownBlock = v.ownBlock ∨ v'.ownBlock = some w.heap.size) → Below lo w w' → K (a.put o.dst v') w') :
    if Region.wanted o (yielded ops a.tmps) = true then Oper.wp P o a w K Q else E := by
  obtain ⟨i0, hi0, hz0, hz1, hz2⟩ := info_parts hinfo
  refine step_append_any w hgd s x t ho lo e i0 z size bytes ht hi0 hz0 hz1 hz2 hzs hsz v n xs hs hown.1 B A m c news hx hr h1 (by simp only [maxLen]; omega) hlen hlo ?_
  intro v' w' h1 h2 h3
  exact h v' w' (OwnC.of h1) h2 h3 ((Below.refl _ _).grown h2 hlo fun k hk => (hown.1.lt k hk).1)
/-- What Brought answers. -/
def BrPost (s : Pe.Shape) (w : World) (e : Ending) (w' : World) : Prop := ∃ V' : ShV, e = .returned (.agg V'.cells) ∧ ShRd w' w'.heap.size V' (Pe.brought s) ∧ Below w.heap.size w w'
/-- What the walk knows, in the world wc: the shape's block, the result's block, the block p of the one that is made. -/
structure BX (V : ShV) (s : Pe.Shape) (w : World) (p : Nat) (Y : ShV) (wc : World) : Prop where
  sh : ShRd w w.heap.size V s
  atX : Bs wc w.heap.size V
  atR : Bs wc (w.heap.size + 1) ShV.zero
  atP : Bs wc p Y
  lt : w.heap.size + 2 ≤ p
  below : Below w.heap.size w wc
  plus : Y.plus = s.plus
  stub : RdV w w.heap.size Y.stub (s.stub.take 200)
  fill : RdV w w.heap.size Y.fill (s.fill.take 200)
  order : ∃ A n c, Y.order = .slice A n c ∧ RdI w w.heap.size A n c (s.order.take 20)
  behind : RdV w w.heap.size Y.behind (s.behind.take 500)
  nob : Y.bodies = .slice none 0 0
  nos : Y.sigs = .slice none 0 0
theorem load_rows {w : World} {ad : Addr} {v : Value} (h : w.cell? ad = some v) : (loadVar 28 ad).run Tryz.prog w = .ok v w := by simp [go_sem, h]
theorem F_min9 {Q : Exit → Act → World → Prop} {o : Oper} {a : Act} {w : World} {Mi : World → Prop} {R : World → World → Prop} {x y : Operand} {ts : Array TypeId} {u v r : Int} (ho : o.op = .call { callee := .builtin .min, args := #[x, y], argTypes := ts }) (hx : a.eval x = .int .i64 u) (hy : a.eval y = .int .i64 v) (hr : (if v < u then v else u) = r) (hM : Mi w) (hR : R w w) : o.wp Tryz.prog a w (RK o a w (.int .i64 r) Mi R) Q := by
  have hm : (#[x, y] : Array Operand).map a.eval = #[.int .i64 u, .int .i64 v] := by rw [← hx, ← hy]; simp
  refine F_val ?_ hM hR
  subst hr
  simp only [execOp, ho, resolve, hm]
  simp [go_sem]
  try (rw [Int.min_def]; split <;> split <;> omega)
theorem wp_store_cell {o : Oper} {a : Act} {w : World} {K : Act → World → Prop} {Q : Exit → Act → World → Prop} {x y : Operand} {g k n c : Nat} {A : Option Addr} {u : Value} (ho : o.op = .store 28 x y)
    (hx : a.eval x = .pointer (some ⟨g, k, none⟩)) (hy : a.eval y = .slice A n c) (hc : w.cell? ⟨g, k, none⟩ = some u) (hf : w.frozen? ⟨g, k, none⟩ = false) (h : K (a.put o.dst undef) (w.setCell ⟨g, k, none⟩ (.slice A n c))) : o.wp Tryz.prog a w K Q := by
  have hr : (storeVar 28 ⟨g, k, none⟩ (.slice A n c)).run Tryz.prog w = .ok () (w.setCell ⟨g, k, none⟩ (.slice A n c)) := by simp [go_sem, hc, hf]
  unfold Oper.wp execOp
  simp only [ho, hx, hy, Instr.storeAt, Instr.sureAddr, Sem.run_bind, Sem.run_pure, Result.andThen_ok, hr]
  exact h
theorem PK_of {P : Program} {o : Oper} {a : Act} {w : World} {v : Value} {Q : Exit → Act → World → Prop} {JJ : Bool → Nat → Value → World → Prop} {GG : Bool → World → Prop} {b : Bool} {i : Nat} (hd : o.dst ≠ none) (hJ : JJ b i v w) (hG : GG b w) (h : o.wp P a w (RK o a w v (fun _ => True) (fun x y => x = y)) Q) :
    o.wp P a w (fun a' w' => ∃ v, a' = a.put o.dst v ∧ (o.dst = none → v = undef) ∧ JJ b i v w' ∧ GG b w' ∧ ∀ j u, JJ b j u w → JJ b j u w') Q :=
  Oper.wp_mono (fun a' w' ⟨e, _, r⟩ => by subst r; exact ⟨v, e, fun h => absurd h hd, hJ, hG, fun _ _ h => h⟩) h
theorem wp_one {o : Oper} {a : Act} {w : World} {K : Act → World → Prop} {Q : Exit → Act → World → Prop} {x : Operand} {A : Option Addr} {n c : Nat} (ho : o.op = .buildSlice 28 1 #[(0, x)]) (hx : a.eval x = .slice A n c)
    (h : K (a.put o.dst (.slice (some ⟨w.heap.size, 0, none⟩) 1 1)) (w.alloc (.cells #[.slice A n c] 22))) : o.wp Tryz.prog a w K Q := by
  obtain ⟨i0, hi0, hz0, hz1, hz2⟩ := info_parts bs_info2
  refine wp_buildSlice 28 22 1 _ ho #[.slice A n c] i0 _ Tryz.underlying28 hi0 hz0 (by rw [hz1]; omega) (by rw [hz1]; omega) ?_ h
  rw [hz1]
  simp only [List.map_toArray, List.map_cons, List.map_nil, hx]
  exact Great.fill_flat [.slice A n c] _ (fun v hv => by obtain rfl := List.mem_singleton.1 hv; rfl) (by simp)
theorem Reads.oneAt {w : World} {q : Nat} {t : TypeId} {u : Value} {fr : Nat × Nat} (h : w.heap[q]? = some (.cells #[u] t fr)) : Reads w (q + 1) 1 (some ⟨q, 0, none⟩) 1 [u] := by
  refine ⟨rfl, fun _ => ⟨_, rfl, by simp, fun j x hx => ?_⟩⟩
  rw [Addr.add_lit]
  exact (cell_of_row _ q _ _ _ _ h).trans (by simpa using hx)
theorem XS.setCell {w : World} {lo p o : Nat} {v u : Value} {l : List (Value × List UInt8)} {cs : Array Value} {fr : Nat × Nat} (h : XS w lo v l) (hp : p < lo) (hg : w.heap[p]? = some (.cells cs 45 fr)) : XS (w.setCell ⟨p, o, none⟩ u) lo v l := by
  refine ⟨(h.1.setCell (p := ⟨p, o, none⟩) (.inl hp) u).mono (Nat.le_refl _) (by simp), fun q hq => (h.2 q hq).keep (by simp) fun g cs' fr' hgg => Below.heap_setCell _ _ _ g (fun e => ?_)⟩
  subst e
  have hgg := hg.symm.trans hgg
  injection hgg with hgg
  injection hgg with _ e2
  exact absurd e2 (by decide)
/-- The signatures so far. -/
structure B2 (p : Nat) (Y : ShV) (wm : World) (v : Value) (L : List (Value × List UInt8)) (wr : World) : Prop where
  row : XS wr wm.heap.size v L
  atP : Bs wr p { Y with sigs := v }
  grown : wm.grownBy wr (some p)
theorem B2.step {p : Nat} {Y : ShV} {wm wr w6 : World} {v v6 : Value} {L L' : List (Value × List UInt8)} (h : B2 p Y wm v L wr) (hp : p < wm.heap.size) (hb : Below wm.heap.size wr w6) (ho : XS w6 wm.heap.size v6 L') : B2 p Y wm v6 L' (w6.setCell ⟨p, 6, none⟩ v6) := by
  have hgs := h.grown.size
  have hs6 := hb.size
  have hk : ∀ k, k < wm.heap.size → w6.heap[k]? = wr.heap[k]? := fun k hk => hb.block k hk
  have hP : Blk w6 p 45 (ShV.cells { Y with sigs := v }) := (hk p hp).trans h.atP
  refine ⟨ho.setCell hp hP, hP.set_ 6 v6, ?_⟩
  refine ⟨hb.os.trans h.grown.os, hb.tape.trans h.grown.tape, hb.output.trans h.grown.output, by simp; omega, fun k h1 h2 => ?_⟩
  rw [Below.heap_setCell _ _ _ k (fun e => h2 (by rw [e]))]
  exact (hk k h1).trans (h.grown.block k h1 h2)
theorem B2.drewN {p : Nat} {Y : ShV} {wm wr : World} {v : Value} {L : List (Value × List UInt8)} (h : B2 p Y wm v L wr) (n : Nat) : B2 p Y wm v L (wr.drewN n) :=
  ⟨h.row.below (below_drewN (Below.refl _ _) n), h.atP, ⟨h.grown.os, h.grown.tape, h.grown.output, h.grown.size, h.grown.block⟩⟩
/-- What the slots of region 12 hold. -/
def B12J (X k : Nat) (V6 A' B' : Value) (e : Addr) (j n m : Nat) (zs : List UInt8) (b : Bool) : Nat → Value → World → Prop
  | 0, u, _ => u = .slice (some ⟨k, 0, none⟩) 1 1
  | 1, u, _ => u = .pointer (some ⟨X, 6, none⟩)
  | 2, u, _ => u = V6
  | 3, u, _ => u = .int .i64 (j : Int)
  | 4, u, _ => u = .pointer (some e)
  | 5, u, _ => u = A'
  | 6, u, _ => u = .pointer (some ⟨X, 6, none⟩)
  | 7, u, _ => u = V6
  | 8, u, _ => u = .int .i64 (j : Int)
  | 9, u, _ => u = .pointer (some e)
  | 10, u, _ => u = A'
  | 11, u, _ => u = .int .i64 (n : Int)
  | 12, u, _ => u = .int .i64 (m : Int)
  | 13, u, _ => u = B'
  | 14, u, w => b = true ∧ OwnB w k w.heap.size u zs
  | _, _, _ => True
theorem B12J.turn {X k : Nat} {V6 A' B' : Value} {e : Addr} {j n m : Nat} {zs : List UInt8} (w w' : World) : ∀ (i : Nat) (u : Value), B12J X k V6 A' B' e j n m zs false i u w → B12J X k V6 A' B' e j n m zs true i u w' := by
  intro i u h
  unfold B12J at h ⊢
  split <;> first
    | trivial
    | exact h
    | exact nomatch h.1
/-- How the world stands in region 5. -/
def B5G (lo : Nat) (wr : World) (b : Bool) (w : World) : Prop := Below (if b then lo else wr.heap.size) wr w
theorem B5G.low {lo : Nat} {wr w : World} {b : Bool} (h : B5G lo wr b w) (hl : lo ≤ wr.heap.size) : Below lo wr w := by
  unfold B5G at h
  cases b
  · exact h.mono hl
  · exact h

end Go.Proofs.YtmpladnglfiejaaGreatDoor
end

section
/- Brought's second loop. -/
namespace Go.Proofs.YtmpladnglfiejaaGreatDoor
open Go.RowKit
set_option maxRecDepth 100000
set_option linter.unusedVariables false
set_option linter.unusedSimpArgs false
noncomputable def bTail2 : Code := codeTail 3 (bodyOf Tryz.f16)
theorem Rd_nil0 (w : World) (B : Nat) : Rd w B none 0 0 [] := ⟨rfl, Nat.le_refl _, by omega, fun _ => rfl, fun h => absurd h (by omega), ⟨rfl, fun h => absurd h (by omega)⟩⟩
/-- The bodies that were made: a row of the call's own behind the block p; its parts lie in what the call was handed. -/
def RB (w wk : World) (p : Nat) (v : Value) (xss : List (List UInt8)) : Prop := ∃ L : List (Value × List UInt8), OwnC 22 1 wk (p + 1) wk.heap.size v L.length (L.map (·.1)) ∧ (∀ q ∈ L, RdV w w.heap.size q.1 q.2) ∧ L.map (·.2) = xss
theorem RB.grown {w wk wk' : World} {p g : Nat} {v : Value} {xss : List (List UInt8)} (h : RB w wk p v xss) (hg : wk.grownBy wk' (some g)) (hgp : g ≤ p) : RB w wk' p v xss := by
  obtain ⟨L, h1, h2, h3⟩ := h
  exact ⟨L, (h1.keep fun k h4 h5 => hg.block k h5 (fun e => by injection e with e; omega)).mono (Nat.le_refl _) hg.size, h2, h3⟩
theorem RB.rows {w wk : World} {p : Nat} {v : Value} {xss : List (List UInt8)} (h : RB w wk p v xss) (hb : Below w.heap.size w wk) : RdLV wk wk.heap.size v xss := by
  obtain ⟨L, h1, h2, h3⟩ := h
  obtain ⟨A, c, rfl, h4, h5, h6, h7⟩ := h1.shape
  exact ⟨A, _, c, L, rfl, ⟨rfl, h4, h5, h7, fun v xs hm => ((h2 _ hm).keep fun p hp => hb.cell hp).more hb.size⟩, h3⟩
theorem RB.nil1 (w wk : World) {p g : Nat} (hg : g = wk.heap.size) (hp : p < g) : RB w (wk.alloc (.cells #[.slice none 0 0] 22)) p (.slice (some ⟨g, 0, none⟩) 1 1) [[]] := by
  have h := XS.lit wk [(.slice none 0 0, [])] [.slice none 0 0] g 1 hg rfl rfl (by omega) (fun q hq => by obtain rfl := List.mem_singleton.1 hq; exact ⟨none, 0, 0, rfl, Rd_nil0 _ _, fun ad e => by cases e⟩)
  exact ⟨[(.slice none 0 0, [])], h.1.mono (by omega) (Nat.le_refl _), fun q hq => by obtain rfl := List.mem_singleton.1 hq; exact RdV.mk (Rd_nil0 _ _), rfl⟩
theorem XS.grown {wk wk' : World} {lo g : Nat} {v : Value} {l : List (Value × List UInt8)} {C : ShV} (h : XS wk lo v l) (hg : wk.grownBy wk' (some g)) (hgl : g < lo) (hB : Bs wk g C) : XS wk' lo v l := by
  refine ⟨(h.1.keep fun k h4 h5 => hg.block k h5 (fun e => by injection e with e; omega)).mono (Nat.le_refl _) hg.size, fun q hq => (h.2 q hq).keep hg.size fun k cs fr hk => hg.block k (Array.getElem?_eq_some_iff.1 hk).1 (fun e => ?_)⟩
  injection e with e
  subst e
  have hk := Eq.trans (Eq.symm hB) hk
  injection hk with hk
  injection hk with _ e2
  exact absurd e2 (by decide)
theorem XS.rdlv {wk : World} {lo : Nat} {v : Value} {l : List (Value × List UInt8)} (h : XS wk lo v l) : RdLV wk wk.heap.size v (l.map (·.2)) := by
  obtain ⟨A, c, e, hr⟩ := h.rdl
  exact ⟨A, _, c, l, e, hr, rfl⟩
noncomputable def bTail3 : Code := codeTail 5 (bodyOf Tryz.f16)
section
variable {V : ShV} {s : Pe.Shape} {w : World} {p : Nat} {Y : ShV}
set_option maxHeartbeats 4000000 in
theorem brought_tail3 {wb wf : World} {vb vs : Value} (hx : BX V s w p Y wb) (hR : Bs wf (w.heap.size + 1) ShV.zero) (hP : Bs wf p { Y with bodies := vb, sigs := vs }) (hbw : Below w.heap.size w wf)
    {lo : Nat} {L : List (Value × List UInt8)} (hb : RB w wf p vb (Pe.brought s).bodies) (hs : XS wf lo vs L) (hlo : p < lo) (hL : L.map (·.2) = (Pe.brought s).sigs) (u0 u4 u5 u6 u7 u8 u9 u10 u11 u12 u13 u14 u15 u16 u17 u18 u19 u20 u21 u22 u23 u24 u25 u26 u27 u28 u29 u30 u31 u32 u33 u34 u35 u36 u37 u38 u39 u40 u41 u42 u43 u44 u45 u46 u47 u48 u49 u50 u51 u52 u53 u54 u55 u56 u57 u58 u59 u60 u61 u62 u63 u64 u65 u66 u67 u68 u69 u70 u71 u72 u73 u74 u75 u76 u77 u78 u79 u80 u81 u82 u83 u84 u85 u86 u87 u88 u89 u90 u91 u92 u93 u94 u95 u96 u97 u98 u99 u100 u101 u102 u103 u104 u105 u106 : Value) :
    bTail3.wp Tryz.prog (bodyPost Tryz.prog Tryz.f16 (BrPost s w)) { tmps := (u0 :: Value.pointer (some ⟨w.heap.size, 0, none⟩) :: Value.pointer (some ⟨w.heap.size + 1, 0, none⟩) :: Value.pointer (some ⟨p, 0, none⟩) :: u4 :: u5 :: u6 :: u7 :: u8 :: u9 :: u10 :: u11 :: u12 :: u13 :: u14 :: u15 :: u16 :: u17 :: u18 :: u19 :: u20 :: u21 :: u22 :: u23 :: u24 :: u25 :: u26 :: u27 :: u28 :: u29 :: u30 :: u31 :: u32 :: u33 :: u34 :: u35 :: u36 :: u37 :: u38 :: u39 :: u40 :: u41 :: u42 :: u43 :: u44 :: u45 :: u46 :: u47 :: u48 :: u49 :: u50 :: u51 :: u52 :: u53 :: u54 :: u55 :: u56 :: u57 :: u58 :: u59 :: u60 :: u61 :: u62 :: u63 :: u64 :: u65 :: u66 :: u67 :: u68 :: u69 :: u70 :: u71 :: u72 :: u73 :: u74 :: u75 :: u76 :: u77 :: u78 :: u79 :: u80 :: u81 :: u82 :: u83 :: u84 :: u85 :: u86 :: u87 :: u88 :: u89 :: u90 :: u91 :: u92 :: u93 :: u94 :: u95 :: u96 :: u97 :: u98 :: u99 :: u100 :: u101 :: u102 :: u103 :: u104 :: u105 :: u106 :: []).toArray, defers := [] } wf := by
  have hsh : ∀ W, wf.grownBy W (some (w.heap.size + 1)) → ShRd W W.heap.size { Y with bodies := vb, sigs := vs } (Pe.brought s) := fun W hg => by
    have hbW : Below w.heap.size w W := hbw.grown hg hbw.size (fun k e => by injection e with e; omega)
    have up : ∀ {v : Value} {xs : List UInt8}, RdV w w.heap.size v xs → RdV W W.heap.size v xs := fun h => (h.keep fun p hp => hbW.cell hp).more hbW.size
    obtain ⟨A, n, c, e, hi⟩ := hx.order
    have hlt := hx.lt
    exact ⟨hx.plus, up hx.stub, up hx.fill, (hb.grown hg (by omega)).rows hbW, ⟨A, n, c, e, (hi.keep fun p hp => hbW.cell hp).more hbW.size⟩, up hx.behind, by rw [← hL]; exact (hs.grown hg (by omega) hR).rdlv⟩
  have hone := (hsh wf ⟨rfl, rfl, rfl, Nat.le_refl _, fun _ _ _ => rfl⟩).one
  generalize hQ : bodyPost Tryz.prog Tryz.f16 (BrPost s w) = Q
  unfold bTail3 bodyOf
  simp only [Tryz.f16, codeTail, Option.getD_some]
  have HX := Lib.hid (And.intro hR (And.intro hP (And.intro hbw (And.intro hsh (And.intro hone hQ)))))
  have hRl := hR.lt
  clear hx hR hP hbw hsh hone hQ hb hs
  go_wp2_with (first
    | ((with_reducible refine at_load_sh ?_); refine wpList_load_sh rfl _ rfl p _ rfl HX.out.2.1 ?_)
    | ((with_reducible refine at_store_sh ?_); refine wpList_store_sh rfl _ _ rfl (w.heap.size + 1) ShV.zero _ rfl rfl HX.out.1 HX.out.2.2.2.2.1 ?_; intro w9 hB9 hg9)
    | fail)
  rw [← HX.out.2.2.2.2.2]
  have hb9 := HX.out.2.2.1.grown hg9 HX.out.2.2.1.size (fun k e => by injection e with e; omega)
  refine bodyPost_ret (results_cell1 Tryz.results16 _ _ _ _ _ rfl (load_sh hB9)) rfl ⟨_, rfl, HX.out.2.2.2.1 _ hg9, hb9⟩
set_option maxHeartbeats 4000000 in
theorem brought_tail2 {wb wk : World} {Av : Option Addr} {nb cv : Nat} (hx : BX V s w p Y wb) (hX : Bs wk w.heap.size V) (hR : Bs wk (w.heap.size + 1) ShV.zero) (hP : Bs wk p { Y with bodies := .slice Av nb cv }) (hbw : Below w.heap.size w wk)
    (hrw : RB w wk p (.slice Av nb cv) ((s.bodies.take 10).map (·.take 300))) (hnb : nb = min s.bodies.length 10) (u0 u4 u5 u6 u7 u8 u9 u10 u11 u12 u13 u14 u15 u16 u17 u18 u19 u20 u21 u22 u23 u24 u25 u26 u27 u28 u29 u30 u31 u32 u33 u34 u35 u36 u37 u38 u39 u40 u41 u42 u43 u44 u45 u46 u47 u48 u49 u50 u51 u52 u53 u54 u55 u56 u57 u58 u59 u60 u61 u62 u63 u64 u65 u66 u67 u68 u69 u70 u71 u72 u73 u74 u75 u76 u77 u78 u79 u80 u81 u82 u83 u84 u85 u86 u87 u88 u89 u90 u91 u92 u93 u94 u95 u96 u97 u98 u99 u100 u101 u102 u103 u104 u105 u106 : Value) :
    bTail2.wp Tryz.prog (bodyPost Tryz.prog Tryz.f16 (BrPost s w)) { tmps := (u0 :: Value.pointer (some ⟨w.heap.size, 0, none⟩) :: Value.pointer (some ⟨w.heap.size + 1, 0, none⟩) :: Value.pointer (some ⟨p, 0, none⟩) :: u4 :: u5 :: u6 :: u7 :: u8 :: u9 :: u10 :: u11 :: u12 :: u13 :: u14 :: u15 :: u16 :: u17 :: u18 :: u19 :: u20 :: u21 :: u22 :: u23 :: u24 :: u25 :: u26 :: u27 :: u28 :: u29 :: u30 :: u31 :: u32 :: u33 :: u34 :: u35 :: u36 :: u37 :: u38 :: u39 :: u40 :: u41 :: u42 :: u43 :: u44 :: u45 :: u46 :: u47 :: u48 :: u49 :: u50 :: u51 :: u52 :: u53 :: u54 :: u55 :: u56 :: u57 :: u58 :: u59 :: u60 :: u61 :: u62 :: u63 :: u64 :: u65 :: u66 :: u67 :: u68 :: u69 :: u70 :: u71 :: u72 :: u73 :: u74 :: u75 :: u76 :: u77 :: u78 :: u79 :: u80 :: u81 :: u82 :: u83 :: u84 :: u85 :: u86 :: u87 :: u88 :: u89 :: u90 :: u91 :: u92 :: u93 :: u94 :: u95 :: u96 :: u97 :: u98 :: u99 :: u100 :: u101 :: u102 :: u103 :: u104 :: u105 :: u106 :: []).toArray, defers := [] } wk := by
  obtain ⟨A6, n6, c6, l6, e6, hr6, hl6⟩ := hx.sh.sigs
  have hPl := hP.lt
  have hlt := hx.lt
  have hXl := hbw.size
  generalize hQ : bodyPost Tryz.prog Tryz.f16 (BrPost s w) = Q
  unfold bTail2 bodyOf
  simp only [Tryz.f16, codeTail, Option.getD_some]
  have qp3 : wk.cell? ⟨p, 3, none⟩ = some (.slice Av nb cv) := hP.cell 3
  have fp3 := hP.frozen 3
  have HX := Lib.hid (And.intro hx (And.intro hX (And.intro hR (And.intro hP (And.intro hbw (And.intro hrw (And.intro hnb (And.intro hr6 (And.intro hl6 (And.intro e6 hQ))))))))))
  clear hx hX hR hP hbw hrw hr6 hl6 e6 hQ
  refine wp_seq_k fun K hK => ?_
  go_cut [] from 6 (fun wx => ∃ vb, RB w wx p vb (Pe.brought s).bodies ∧ Bs wx p { Y with bodies := vb } ∧ wk.grownBy wx (some p))
  case first =>
    by_cases hn0 : nb = 0
    · have hs0 : s.bodies = [] := List.length_eq_zero_iff.1 (by omega)
      have hbb : (Pe.brought s).bodies = [[]] := by simp [Pe.brought, hs0]
      have HBB := Lib.hid hbb
      clear hbb hs0 hnb
      subst hn0
      go_wp2_with fail
      go_meet
      refine ⟨.slice (some ⟨wk.heap.size, 0, none⟩) 1 1, ?_, ?_, ?_⟩
      · rw [HBB.out]
        exact RB.nil1 w (wk.setCell ⟨p, 3, none⟩ (.slice (some ⟨wk.heap.size, 0, none⟩) 1 1)) (by simp) hPl
      · exact (HX.out.2.2.2.1.set_ 3 _).alloc _
      · exact ⟨rfl, rfl, rfl, by simp, fun k h1 h2 => (Below.heap_alloc _ _ k (by simpa using h1)).trans (Below.heap_setCell _ _ _ k (fun e => h2 (by rw [e])))⟩
    · have hbb : (Pe.brought s).bodies = (s.bodies.take 10).map (·.take 300) := by
        have : s.bodies ≠ [] := fun e => by rw [e] at hnb; simp at hnb; exact hn0 hnb
        simp [Pe.brought, this]
      have hn0' : ¬ (nb : Int) = 0 := by omega
      have HBB := Lib.hid hbb
      clear hbb
      go_wp2_with fail
      go_meet
      exact ⟨_, by rw [HBB.out]; exact HX.out.2.2.2.2.2.1, HX.out.2.2.2.1, ⟨rfl, rfl, rfl, Nat.le_refl _, fun _ _ _ => rfl⟩⟩
  obtain ⟨vb, hrb, hPb, hgb⟩ := hcut
  have hs := hgb.size
  have hbc : Below w.heap.size w wc := HX.out.2.2.2.2.1.grown hgb hXl (fun k e => by injection e with e; omega)
  have hXc : Bs wc w.heap.size V := HX.out.2.1.grown hgb (fun e => by injection e with e; omega)
  have hRc : Bs wc (w.heap.size + 1) ShV.zero := HX.out.2.2.1.grown hgb (fun e => by injection e with e; omega)
  have hPlc : p < wc.heap.size := by omega
  have HY := Lib.hid (And.intro hXc (And.intro hRc (And.intro hPb (And.intro hbc (And.intro hrb hPlc)))))
  clear hrb hPb hgb hXc hRc hbc qp3 fp3 hs
  refine hK _ _ ?_
  clear hK K
  refine wp_seq_k fun K hK => ?_
  go_cut [] from 5 (fun wx => ∃ v L, B2 p { Y with bodies := vb } wc v L wx ∧ L.map (·.2) = (s.sigs.take 8).map fun x => 48 :: x.take 300)
  case first =>
    go_wp2_with fail
    go_loopw [5] (fun i wr => ∃ (j : Nat) (v : Value) (L : List (Value × List UInt8)), j ≤ min n6 8 ∧ i = .int .i64 (j : Int) ∧ B2 p { Y with bodies := vb } wc v L wr ∧ L.map (·.2) = (s.sigs.take j).map fun x => 48 :: x.take 300) (fun i _ => min n6 8 - (intOf i).toNat)
    case atStart => exact ⟨0, _, [], Nat.zero_le _, rfl, ⟨XS.nil_, (by have := HY.out.2.2.1; rw [show ({ Y with bodies := vb, sigs := Value.slice none 0 0 } : ShV) = { Y with bodies := vb } from by rw [← HX.out.1.nos]]; exact this), ⟨rfl, rfl, rfl, Nat.le_refl _, fun _ _ _ => rfl⟩⟩, rfl⟩
    case round =>
      obtain ⟨j, v, L, hj, rfl, hB, hL⟩ := hrel
      have hXr : Bs wr w.heap.size V := HY.out.1.grown hB.grown (fun e => by injection e with e; omega)
      have q6 : wr.cell? ⟨w.heap.size, 6, none⟩ = some (.slice A6 n6 c6) := by rw [← HX.out.2.2.2.2.2.2.2.2.2.1]; exact hXr.cell 6
      have hgs := hB.grown.size
      by_cases hj10 : (j : Int) < 8
      · by_cases hjn : (j : Int) < n6
        · obtain ⟨b6, o6, A', n', c', xs, e6', hb6, hlk, qb0, hrd⟩ := HX.out.2.2.2.2.2.2.2.1.get (k := j) (by omega)
          subst e6'
          have qb : wr.cell? ⟨b6, o6 + j, none⟩ = some (.slice A' n' c') := by
            rw [World.cell?_of_block (a := ⟨b6, o6 + j, none⟩) (hB.grown.block b6 (by omega) (fun e => by injection e with e; omega)), HY.out.2.2.2.1.cell (p := ⟨b6, o6 + j, none⟩) hb6]
            exact qb0
          obtain ⟨m, hm⟩ : ∃ m, min n' 300 = m := ⟨_, rfl⟩
          obtain ⟨B1', d1, x1, s1, t1⟩ := run_upto hrd m (m : Int) rfl (by omega)
          have i1 : (if (300 : Int) < (n' : Int) then (300 : Int) else (n' : Int)) = (m : Int) := by rw [← hm]; split <;> omega
          have hxt : xs.take m = xs.take 300 := by
            rw [← hm]
            have := hrd.len
            rcases Nat.le_total n' 300 with h | h
            · rw [Nat.min_eq_left h, List.take_of_length_le (by omega), List.take_of_length_le (by omega)]
            · rw [Nat.min_eq_right h]
          have hLn : L.length = j := by have := congrArg List.length hL; simp at this; rw [← HX.out.2.2.2.2.2.2.2.2.1, List.length_map, HX.out.2.2.2.2.2.2.2.1.len] at this; omega
          have hL1 : ∀ u : Value, (L ++ [(u, 48 :: xs.take 300)]).map (·.2) = (s.sigs.take (j + 1)).map fun x => 48 :: x.take 300 := fun u => by
            have hbj : s.sigs[j]? = some xs := by rw [← HX.out.2.2.2.2.2.2.2.2.1, List.getElem?_map, hlk]; rfl
            rw [take_snoc hbj, List.map_append, List.map_append, hL]; rfl
          rw [hxt] at x1
          have hml : m ≤ 300 := by omega
          have qp6 : wr.cell? ⟨p, 6, none⟩ = some v := hB.atP.cell 6
          have HI := Lib.hid (And.intro hB (And.intro hL1 (And.intro x1 (And.intro hLn hB.atP))))
          obtain ⟨Av2, cv2, rfl, _⟩ := hB.row.rdl
          subst hLn
          clear hB hL hL1 x1 hrd hlk qb0 hxt hXr
          have hXl2 : w.heap.size < wr.heap.size := by have := HX.out.1.below.size; omega
          have hpr : p < wr.heap.size := by omega
          have hwc : w.heap.size ≤ wc.heap.size := by omega
          go_upto_region 12 with fail
          obtain ⟨W1, hW1⟩ : ∃ W1, wr.alloc (.cells #[.int .u8 48] 5) = W1 := ⟨_, rfl⟩
          rw [hW1]
          have hown1 : OwnB W1 wr.heap.size (wr.heap.size + 1) (.slice (some ⟨wr.heap.size, 0, none⟩) 1 1) [48] := by rw [← hW1]; exact OwnB.lit wr [48] _ 1 rfl rfl (by omega)
          have hs1 : W1.heap.size = wr.heap.size + 1 := by rw [← hW1]; simp
          have hb1 : Below wr.heap.size wr W1 := by rw [← hW1]; exact (Below.refl _ _).alloc (Nat.le_refl _) _
          clear hW1
          have hw1 : Below w.heap.size w W1 := ((HY.out.2.2.2.1).grown HI.out.1.grown (by omega) (fun k e => by injection e with e; omega)).trans (hb1.mono (by omega))
          have hrW : Rd W1 w.heap.size B1' m d1 (xs.take 300) := HI.out.2.2.1.keep fun p hp => hw1.cell hp
          have q61 : W1.cell? ⟨w.heap.size, 6, none⟩ = some (.slice (some ⟨b6, o6, none⟩) n6 c6) := (hb1.cell (p := ⟨w.heap.size, 6, none⟩) hXl2).trans q6
          have qb1 : W1.cell? ⟨b6, o6 + L.length, none⟩ = some (.slice A' n' c') := (hb1.cell (p := ⟨b6, o6 + L.length, none⟩) (by show b6 < wr.heap.size; omega)).trans qb
          have H1 := Lib.hid (And.intro hown1 (And.intro hs1 (And.intro hb1 (And.intro hrW (And.intro q61 qb1)))))
          clear hown1 hb1 hrW q6 qb hw1
          have hwp : wr.cell? ⟨p, 6, none⟩ = some (.slice Av2 L.length cv2) := qp6
          have HQ := Lib.hid hwp
          clear hwp qp6
          go_region_held3 (fun w' => w'.cell? ⟨w.heap.size, 6, none⟩ = some (.slice (some ⟨b6, o6, none⟩) n6 c6) ∧ w'.cell? ⟨b6, o6 + L.length, none⟩ = some (.slice A' n' c')) (go_keep)
            (first | ((refine step_app (by rfl) (.tmp 85) (.tmp 98) (by rfl) wr.heap.size W1.heap.size _ [48] (by rfl) (by exact (H1.out.1.mono (Nat.le_refl _) (by have := H1.out.2.1; omega)).drewN 1) (by have := H1.out.2.1; simp; omega) w.heap.size B1' m d1 (xs.take 300) (by rfl) (by exact (H1.out.2.2.2.1.drew).rds) (by simp; omega) ?_); intro v6 w6 ho6 hg6 hat6 hb6; have z1 := (hb6.cell (p := ⟨w.heap.size, 6, none⟩) hXl2).trans H1.out.2.2.2.2.1; have z2 := (hb6.cell (p := ⟨b6, o6 + L.length, none⟩) (by show b6 < wr.heap.size; omega)).trans H1.out.2.2.2.2.2; obtain ⟨A6', n6', c6', rfl, _⟩ := ho6.rd; have H6 := Lib.hid (And.intro ho6 hb6); clear ho6 hg6 hat6 hb6) | fail)
          have hcr : wc.heap.size ≤ wr.heap.size := hgs
          have hb6 : Below wr.heap.size wr w6 := H1.out.2.2.1.trans ((Below.refl _ _).drew.trans H6.out.2)
          have hX6 : XS w6 wc.heap.size (.slice Av2 L.length cv2) L := HI.out.1.row.below hb6
          have hP6 : Bs w6 p { Y with bodies := vb, sigs := .slice Av2 L.length cv2 } := (hb6.block p hpr).trans HI.out.1.atP
          have qp6 : w6.cell? ⟨p, 6, none⟩ = some (.slice Av2 L.length cv2) := hP6.cell 6
          have hrt : RdT w6 (.slice A6' n6' c6') (48 :: xs.take 300) := RdT.own H6.out.1
          have hs6 := hb6.size
          have H7 := Lib.hid (And.intro hb6 (And.intro (hX6.alloc (.cells #[.slice A6' n6' c6'] 22)) (And.intro (hrt.alloc (.cells #[.slice A6' n6' c6'] 22)) hP6)))
          clear hb6 hX6 hP6 hrt
          have hjl : L.length ≤ 1000 := by have := HI.out.2.2.2.1; omega
          go_wp2_with (first
            | (at_builtin; refine wpList_xs rfl (.tmp 101) (.tmp 103) rfl wc.heap.size _ _ rfl H7.out.2.1 (by simp; omega) w6.heap.size (.slice A6' n6' c6') (48 :: xs.take 300) rfl (Blk.cell (Blk.new w6 _ _) 0) (by simp) H7.out.2.2.1 (by omega) ?_; intro v7 w7 hX7 hB7; obtain ⟨Av7, cv7, rfl, _⟩ := hX7.rdl; have hb7 : Below wc.heap.size wr w7 := ((H7.out.1.mono hcr).alloc (by omega) _).trans hB7; have hP7 : Bs w7 p { Y with bodies := vb, sigs := .slice Av2 L.length cv2 } := (hb7.block p (by omega)).trans HI.out.1.atP; have qp7 := hP7.cell 6; have fp7 := hP7.frozen 6; have H8 := Lib.hid (HI.out.1.step (by omega) hb7 hX7); clear hX7 hB7 hb7 hP7)
            | fail)
          go_roundw
          case rel => exact ⟨L.length + 1, _, _, by omega, by go_num, (by have h8 := H8.out; simp only [List.length_append, List.length_cons, List.length_nil, Nat.zero_add] at h8; exact h8), HI.out.2.1 _⟩
          case measure => simp [intOf]; omega
        · have hjj : j = min n6 8 := by omega
          have hfin : L.map (·.2) = (s.sigs.take 8).map fun x => 48 :: x.take 300 := by
            rw [hL]
            have : s.sigs.length = n6 := by rw [← HX.out.2.2.2.2.2.2.2.2.1, List.length_map, HX.out.2.2.2.2.2.2.2.1.len]
            rw [List.take_of_length_le (by omega), List.take_of_length_le (by omega)]
          have HF := Lib.hid (And.intro hB hfin)
          clear hB hL hfin hXr
          go_wp2_with fail
          go_meet
          exact ⟨v, L, HF.out.1, HF.out.2⟩
      · have hjj : j = 8 := by omega
        have HF := Lib.hid (And.intro hB (show L.map (·.2) = (s.sigs.take 8).map fun x => 48 :: x.take 300 by rw [hL, hjj]))
        clear hB hL hXr
        by_cases hjn : (j : Int) < n6
        · go_wp2_with fail
          go_meet
          exact ⟨v, L, HF.out.1, HF.out.2⟩
        · go_wp2_with fail
          go_meet
          exact ⟨v, L, HF.out.1, HF.out.2⟩
  obtain ⟨v, L, hB, hL⟩ := hcut
  refine hK _ _ ?_
  rw [← HX.out.2.2.2.2.2.2.2.2.2.2]
  have hbf := HY.out.2.2.2.1.grown hB.grown HY.out.2.2.2.1.size (fun k e => by injection e with e; omega)
  exact brought_tail3 HX.out.1 (HY.out.2.1.grown hB.grown (fun e => by injection e with e; omega)) hB.atP hbf (HY.out.2.2.2.2.1.grown hB.grown (Nat.le_refl _)) hB.row HY.out.2.2.2.2.2 hL _ _ _ _ _ _ _ _ _ _ _ _ _ _ _ _ _ _ _ _ _ _ _ _ _ _ _ _ _ _ _ _ _ _ _ _ _ _ _ _ _ _ _ _ _ _ _ _ _ _ _ _ _ _ _ _ _ _ _ _ _ _ _ _ _ _ _ _ _ _ _ _ _ _ _ _ _ _ _ _ _ _ _ _ _ _ _ _ _ _ _ _ _ _ _ _ _ _ _ _ _ _ _ _
end
end Go.Proofs.YtmpladnglfiejaaGreatDoor
end

section
/- Brought's loops. -/
namespace Go.Proofs.YtmpladnglfiejaaGreatDoor
open Go.RowKit
set_option maxRecDepth 100000
set_option linter.unusedVariables false
set_option linter.unusedSimpArgs false
noncomputable def bTail1 : Code := codeTail 2 (bodyOf Tryz.f16)
/-- The bodies so far. -/
structure B1 (V : ShV) (s : Pe.Shape) (w : World) (p : Nat) (Y : ShV) (wc : World) (v : Value) (L : List (Value × List UInt8)) (wr : World) : Prop where
  row : OwnC 22 1 wr wc.heap.size wr.heap.size v L.length (L.map (·.1))
  each : ∀ q ∈ L, RdV w w.heap.size q.1 q.2
  atP : Bs wr p { Y with bodies := v }
  grown : wc.grownBy wr (some p)

/-- What the slots of region 5 hold. -/
def B5J (X p H lo : Nat) (v V3 A' B' : Value) (e : Addr) (j n m N : Nat) (cs : List Value) (b : Bool) : Nat → Value → World → Prop
  | 0, u, _ => u = .pointer (some ⟨p, 3, none⟩)
  | 1, u, _ => u = v
  | 2, u, _ => u = .pointer (some ⟨X, 3, none⟩)
  | 3, u, _ => u = V3
  | 4, u, _ => u = .int .i64 (j : Int)
  | 5, u, _ => u = .pointer (some e)
  | 6, u, _ => u = A'
  | 7, u, _ => u = .pointer (some ⟨X, 3, none⟩)
  | 8, u, _ => u = V3
  | 9, u, _ => u = .int .i64 (j : Int)
  | 10, u, _ => u = .pointer (some e)
  | 11, u, _ => u = A'
  | 12, u, _ => u = .int .i64 (n : Int)
  | 13, u, _ => u = .int .i64 (m : Int)
  | 14, u, _ => u = B'
  | 15, u, w => b = false → ∃ q, u = .slice (some ⟨q, 0, none⟩) 1 1 ∧ H ≤ q ∧ w.heap[q]? = some (.cells #[B'] 22 (0, 0))
  | 16, u, w => b = true ∧ OwnC 22 1 w lo w.heap.size u N cs
  | 17, u, _ => u = .pointer (some ⟨p, 3, none⟩)
  | _, _, _ => True
theorem B5J.mono {X p H lo : Nat} {v V3 A' B' : Value} {e : Addr} {j n m N : Nat} {cs : List Value} {b : Bool} (w : World) (o : Obj) : ∀ (i : Nat) (u : Value), B5J X p H lo v V3 A' B' e j n m N cs b i u w → B5J X p H lo v V3 A' B' e j n m N cs b i u (w.alloc o) := by
  intro i u h
  unfold B5J at h ⊢
  split <;> first
    | trivial
    | exact h
    | (intro e; obtain ⟨q, e1, e2, e3⟩ := h e; exact ⟨q, e1, e2, (Below.heap_alloc _ _ _ (Array.getElem?_eq_some_iff.1 e3).1).trans e3⟩)
    | exact ⟨h.1, (h.2.alloc (Nat.le_refl _) _).mono (Nat.le_refl _) (by simp)⟩
theorem B5J.turn {X p H lo : Nat} {v V3 A' B' : Value} {e : Addr} {j n m N : Nat} {cs : List Value} (w w' : World) : ∀ (i : Nat) (u : Value), B5J X p H lo v V3 A' B' e j n m N cs false i u w → B5J X p H lo v V3 A' B' e j n m N cs true i u w' := by
  intro i u h
  unfold B5J at h ⊢
  split <;> first
    | trivial
    | exact h
    | exact fun e => nomatch e
    | exact nomatch h.1
section
variable {V : ShV} {s : Pe.Shape} {w : World} {p : Nat} {Y : ShV} {wc : World}
theorem B1.step {v v6 b : Value} {L : List (Value × List UInt8)} {wr w6 : World} {ys : List UInt8} (h : B1 V s w p Y wc v L wr) (hp : p < wc.heap.size) (hb : Below wc.heap.size wr w6)
    (ho : OwnC 22 1 w6 wc.heap.size w6.heap.size v6 (L.length + 1) (L.map (·.1) ++ [b])) (hr : RdV w w.heap.size b ys) : B1 V s w p Y wc v6 (L ++ [(b, ys)]) (w6.setCell ⟨p, 3, none⟩ v6) := by
  have hgs := h.grown.size
  have hk : ∀ k, k < wc.heap.size → w6.heap[k]? = wr.heap[k]? := fun k hk => hb.block k hk
  have hs6 := hb.size
  have hP : Blk w6 p 45 (ShV.cells { Y with bodies := v }) := (hk p hp).trans h.atP
  refine ⟨?_, ?_, ?_, ?_⟩
  · rw [List.length_append, List.map_append]
    exact (ho.setCell (p := ⟨p, 3, none⟩) (.inl hp) v6).mono (Nat.le_refl _) (by simp)
  · intro q hq
    rcases List.mem_append.1 hq with hq | hq
    · exact h.each q hq
    · obtain rfl := List.mem_singleton.1 hq
      exact hr
  · exact hP.set_ 3 v6
  · refine ⟨hb.os.trans h.grown.os, hb.tape.trans h.grown.tape, hb.output.trans h.grown.output, by simp; omega, fun k h1 h2 => ?_⟩
    rw [Below.heap_setCell _ _ _ k (fun e => h2 (by rw [e]))]
    exact (hk k h1).trans (h.grown.block k h1 h2)
theorem B1.drewN {v : Value} {L : List (Value × List UInt8)} {wr : World} (h : B1 V s w p Y wc v L wr) (n : Nat) : B1 V s w p Y wc v L (wr.drewN n) :=
  ⟨h.row.keep fun _ _ _ => rfl, h.each, h.atP, ⟨h.grown.os, h.grown.tape, h.grown.output, h.grown.size, h.grown.block⟩⟩
/-- From the bodies' row to what reads as rows. -/
theorem B1.rows {V : ShV} {s : Pe.Shape} {w : World} {p : Nat} {Y : ShV} {wc : World} {v : Value} {L : List (Value × List UInt8)} {wr : World} (h : B1 V s w p Y wc v L wr) (hb : Below w.heap.size w wr) : RdLV wr wr.heap.size v (L.map (·.2)) := by
  obtain ⟨A, c, rfl, h1, h2, h3, h4⟩ := h.row.shape
  exact ⟨A, _, c, L, rfl, ⟨rfl, h1, h2, h4, fun v xs hm => ((h.each _ hm).keep fun p hp => hb.cell hp).more hb.size⟩, rfl⟩
set_option maxHeartbeats 4000000 in
theorem brought_tail1 {wb : World} (hx : BX V s w p Y wb) (u0 u4 u5 u6 u7 u8 u9 u10 u11 u12 u13 u14 u15 u16 u17 u18 u19 u20 u21 u22 u23 u24 u25 u26 u27 u28 u29 u30 u31 u32 u33 u34 u35 u36 u37 u38 u39 u40 u41 u42 u43 u44 u45 u46 u47 u48 u49 u50 u51 u52 u53 u54 u55 u56 u57 u58 u59 u60 u61 u62 u63 u64 u65 u66 u67 u68 u69 u70 u71 u72 u73 u74 u75 u76 u77 u78 u79 u80 u81 u82 u83 u84 u85 u86 u87 u88 u89 u90 u91 u92 u93 u94 u95 u96 u97 u98 u99 u100 u101 u102 u103 u104 u105 u106 : Value) :
    bTail1.wp Tryz.prog (bodyPost Tryz.prog Tryz.f16 (BrPost s w)) { tmps := (u0 :: Value.pointer (some ⟨w.heap.size, 0, none⟩) :: Value.pointer (some ⟨w.heap.size + 1, 0, none⟩) :: Value.pointer (some ⟨p, 0, none⟩) :: u4 :: u5 :: u6 :: u7 :: u8 :: u9 :: u10 :: u11 :: u12 :: u13 :: u14 :: u15 :: u16 :: u17 :: u18 :: u19 :: u20 :: u21 :: u22 :: u23 :: u24 :: u25 :: u26 :: u27 :: u28 :: u29 :: u30 :: u31 :: u32 :: u33 :: u34 :: u35 :: u36 :: u37 :: u38 :: u39 :: u40 :: u41 :: u42 :: u43 :: u44 :: u45 :: u46 :: u47 :: u48 :: u49 :: u50 :: u51 :: u52 :: u53 :: u54 :: u55 :: u56 :: u57 :: u58 :: u59 :: u60 :: u61 :: u62 :: u63 :: u64 :: u65 :: u66 :: u67 :: u68 :: u69 :: u70 :: u71 :: u72 :: u73 :: u74 :: u75 :: u76 :: u77 :: u78 :: u79 :: u80 :: u81 :: u82 :: u83 :: u84 :: u85 :: u86 :: u87 :: u88 :: u89 :: u90 :: u91 :: u92 :: u93 :: u94 :: u95 :: u96 :: u97 :: u98 :: u99 :: u100 :: u101 :: u102 :: u103 :: u104 :: u105 :: u106 :: []).toArray, defers := [] } wb := by
  obtain ⟨A3, n3, c3, l3, e3, hr3, hl3⟩ := hx.sh.bodies
  have hPl := hx.atP.lt
  have hlt := hx.lt
  have hP3 : Bs wb p { Y with bodies := .slice none 0 0 } := by have := hx.atP; rw [← hx.nob]; exact this
  generalize hQ : bodyPost Tryz.prog Tryz.f16 (BrPost s w) = Q
  unfold bTail1 bodyOf
  simp only [Tryz.f16, codeTail, Option.getD_some]
  have HX := Lib.hid (And.intro hx (And.intro hr3 (And.intro hl3 (And.intro e3 (And.intro hP3 hQ)))))
  clear hx hr3 hl3 e3 hQ hP3
  refine wp_seq_k fun K hK => ?_
  go_cut [] from 4 (fun wx => ∃ v L, B1 V s w p Y wb v L wx ∧ L.map (·.2) = (s.bodies.take 10).map (·.take 300))
  case first =>
    go_wp2_with fail
    go_loopw [4] (fun i wr => ∃ (j : Nat) (v : Value) (L : List (Value × List UInt8)), j ≤ min n3 10 ∧ i = .int .i64 (j : Int) ∧ B1 V s w p Y wb v L wr ∧ L.map (·.2) = (s.bodies.take j).map (·.take 300)) (fun i _ => min n3 10 - (intOf i).toNat)
    case atStart => exact ⟨0, _, [], Nat.zero_le _, rfl, ⟨OwnC.nil_, fun q hq => (by cases hq), HX.out.2.2.2.2.1, ⟨rfl, rfl, rfl, Nat.le_refl _, fun _ _ _ => rfl⟩⟩, rfl⟩
    case round =>
      obtain ⟨j, v, L, hj, rfl, hB, hL⟩ := hrel
      have hXr : Bs wr w.heap.size V := HX.out.1.atX.grown hB.grown (fun e => by injection e with e; omega)
      have q3 : wr.cell? ⟨w.heap.size, 3, none⟩ = some (.slice A3 n3 c3) := by rw [← HX.out.2.2.2.1]; exact hXr.cell 3
      have qp3 : wr.cell? ⟨p, 3, none⟩ = some v := hB.atP.cell 3
      have fp3 := hB.atP.frozen 3
      have hgs := hB.grown.size
      by_cases hj10 : (j : Int) < 10
      · by_cases hjn : (j : Int) < n3
        · obtain ⟨b3, o3, A', n', c', xs, e3, hb3, hlk, qb0, hrd⟩ := HX.out.2.1.get (k := j) (by omega)
          subst e3
          have qb : wr.cell? ⟨b3, o3 + j, none⟩ = some (.slice A' n' c') := by
            rw [World.cell?_of_block (a := ⟨b3, o3 + j, none⟩) (hB.grown.block b3 (by have := HX.out.1.below.size; omega) (fun e => by injection e with e; omega)), HX.out.1.below.cell (p := ⟨b3, o3 + j, none⟩) hb3]
            exact qb0
          obtain ⟨m, hm⟩ : ∃ m, min n' 300 = m := ⟨_, rfl⟩
          obtain ⟨B1', d1, x1, s1, t1⟩ := run_upto hrd m (m : Int) rfl (by omega)
          have i1 : (if (300 : Int) < (n' : Int) then (300 : Int) else (n' : Int)) = (m : Int) := by rw [← hm]; split <;> omega
          have hxt : xs.take m = xs.take 300 := by
            rw [← hm]
            have := hrd.len
            rcases Nat.le_total n' 300 with h | h
            · rw [Nat.min_eq_left h, List.take_of_length_le (by omega), List.take_of_length_le (by omega)]
            · rw [Nat.min_eq_right h]
          have hLn : L.length = j := by have := congrArg List.length hL; simp at this; rw [← HX.out.2.2.1, List.length_map, HX.out.2.1.len] at this; omega
          have hL1 : (L ++ [(Value.slice B1' m d1, xs.take 300)]).map (·.2) = (s.bodies.take (j + 1)).map (·.take 300) := by
            have hbj : s.bodies[j]? = some xs := by rw [← HX.out.2.2.1, List.getElem?_map, hlk]; rfl
            rw [take_snoc hbj, List.map_append, List.map_append, hL]; rfl
          rw [hxt] at x1
          have HI := Lib.hid (And.intro hB (And.intro hL1 (And.intro x1 hLn)))
          have hvs : ∃ Av nv cv, v = .slice Av nv cv := by obtain ⟨Av, cv, e, _⟩ := hB.row.shape; exact ⟨Av, _, cv, e⟩
          obtain ⟨Av, nv, cv, rfl⟩ := hvs
          clear hB hL hL1 x1 hrd hlk qb0 hxt hXr
          have hXl : w.heap.size < wr.heap.size := by have := HX.out.1.below.size; omega
          have hpr : p < wr.heap.size := by omega
          have hwc : w.heap.size ≤ wb.heap.size := by have := HX.out.1.below.size; omega
          have hbk : ∀ k, Value.ownBlock (.slice Av nv cv) = some k → wb.heap.size ≤ k := fun k e => (HI.out.1.row.1.lt k e).1
          have HBK := Lib.hid hbk
          clear hbk
          go_upto_region 5 with fail
          have hC : ∀ b W, B5G wb.heap.size wr b W → W.cell? ⟨w.heap.size, 3, none⟩ = some (.slice (some ⟨b3, o3, none⟩) n3 c3) ∧ W.cell? ⟨p, 3, none⟩ = some (.slice Av nv cv) ∧ W.cell? ⟨b3, o3 + j, none⟩ = some (.slice A' n' c') := fun b W hG => by
            have hl := hG.low hgs
            exact ⟨(hl.cell (p := ⟨w.heap.size, 3, none⟩) (by show w.heap.size < wb.heap.size; omega)).trans q3, (hl.cell (p := ⟨p, 3, none⟩) hPl).trans qp3, (hl.cell (p := ⟨b3, o3 + j, none⟩) (by show b3 < wb.heap.size; omega)).trans qb⟩
          have HC := Lib.hid hC
          clear hC
          refine wp_region_phase 18 16 (B5J w.heap.size p wr.heap.size wb.heap.size (.slice Av nv cv) (.slice (some ⟨b3, o3, none⟩) n3 c3) (.slice A' n' c') (.slice B1' m d1) ⟨b3, o3 + j, none⟩ j n' m (L.length + 1) (L.map (·.1) ++ [.slice B1' m d1])) (B5G wb.heap.size wr) rfl (by show dstsOk _ 107 = true; decide +kernel) (by decide +kernel) (by decide +kernel) (by decide +kernel) (by decide) (Below.refl _ _).drew ⟨?_, ?_, ?_, ?_, ?_, ?_, ?_, ?_, ?_, ?_, ?_, ?_, ?_, ?_, ?_, ?_, ?_, ?_, trivial⟩ ?_
          · intro b a' W hfr hG hdep; refine PK_of (by simp) rfl hG ?_; have d := hfr 3 (by decide +kernel); refine F_val ?_ trivial rfl; simp only [execOp, d]; simp [go_sem, Act.eval]
          · intro b a' W hfr hG hdep; refine PK_of (by simp) rfl hG ?_; have d : a'.eval (.tmp 49) = .pointer (some ⟨p, 3, none⟩) := hdep 0 (by decide +kernel); exact F_load rfl d (load_rows (HC.out b W hG).2.1) trivial rfl
          · intro b a' W hfr hG hdep; refine PK_of (by simp) rfl hG ?_; have d := hfr 1 (by decide +kernel); refine F_val ?_ trivial rfl; simp only [execOp, d]; simp [go_sem, Act.eval]
          · intro b a' W hfr hG hdep; refine PK_of (by simp) rfl hG ?_; have d : a'.eval (.tmp 51) = .pointer (some ⟨w.heap.size, 3, none⟩) := hdep 2 (by decide +kernel); exact F_load rfl d (load_rows (HC.out b W hG).1) trivial rfl
          · intro b a' W hfr hG hdep; refine PK_of (by simp) rfl hG ?_; exact F_move rfl (hfr 4 (by decide +kernel)) trivial rfl
          · intro b a' W hfr hG hdep; refine PK_of (by simp) rfl hG ?_; have d : a'.eval (.tmp 52) = .slice (some ⟨b3, o3, none⟩) n3 c3 := hdep 3 (by decide +kernel); have d' : a'.eval (.tmp 53) = .int .i64 (j : Int) := hdep 4 (by decide +kernel); refine F_val ?_ trivial rfl; simp only [execOp, d, d']; simp [go_sem, Act.eval, hjn]
          · intro b a' W hfr hG hdep; refine PK_of (by simp) rfl hG ?_; have d : a'.eval (.tmp 54) = .pointer (some ⟨b3, o3 + j, none⟩) := hdep 5 (by decide +kernel); exact F_load rfl d (load_bytesR (HC.out b W hG).2.2) trivial rfl
          · intro b a' W hfr hG hdep; refine PK_of (by simp) rfl hG ?_; have d := hfr 1 (by decide +kernel); refine F_val ?_ trivial rfl; simp only [execOp, d]; simp [go_sem, Act.eval]
          · intro b a' W hfr hG hdep; refine PK_of (by simp) rfl hG ?_; have d : a'.eval (.tmp 56) = .pointer (some ⟨w.heap.size, 3, none⟩) := hdep 7 (by decide +kernel); exact F_load rfl d (load_rows (HC.out b W hG).1) trivial rfl
          · intro b a' W hfr hG hdep; refine PK_of (by simp) rfl hG ?_; exact F_move rfl (hfr 4 (by decide +kernel)) trivial rfl
          · intro b a' W hfr hG hdep; refine PK_of (by simp) rfl hG ?_; have d : a'.eval (.tmp 57) = .slice (some ⟨b3, o3, none⟩) n3 c3 := hdep 8 (by decide +kernel); have d' : a'.eval (.tmp 58) = .int .i64 (j : Int) := hdep 9 (by decide +kernel); refine F_val ?_ trivial rfl; simp only [execOp, d, d']; simp [go_sem, Act.eval, hjn]
          · intro b a' W hfr hG hdep; refine PK_of (by simp) rfl hG ?_; have d : a'.eval (.tmp 59) = .pointer (some ⟨b3, o3 + j, none⟩) := hdep 10 (by decide +kernel); exact F_load rfl d (load_bytesR (HC.out b W hG).2.2) trivial rfl
          · intro b a' W hfr hG hdep; refine PK_of (by simp) rfl hG ?_; have d : a'.eval (.tmp 60) = .slice A' n' c' := hdep 11 (by decide +kernel); exact F_len rfl d trivial rfl
          · intro b a' W hfr hG hdep; refine PK_of (by simp) rfl hG ?_; have d : a'.eval (.tmp 61) = .int .i64 (n' : Int) := hdep 12 (by decide +kernel); exact F_min9 rfl d rfl i1 trivial rfl
          · intro b a' W hfr hG hdep; refine PK_of (by simp) rfl hG ?_; have d : a'.eval (.tmp 55) = .slice A' n' c' := hdep 6 (by decide +kernel); have d' : a'.eval (.tmp 62) = .int .i64 (m : Int) := hdep 13 (by decide +kernel); refine F_val ?_ trivial rfl; simp only [execOp, d, d', Option.map_some, Option.map_none]; simp [s1, t1]
          · intro b a' W hfr hG hdep; have d : a'.eval (.tmp 63) = .slice B1' m d1 := hdep 14 (by decide +kernel); refine wp_one rfl d ⟨_, rfl, by simp, fun e => ⟨W.heap.size, rfl, by subst e; exact (Below.size hG), heap_alloc_new W _⟩, ?_, B5J.mono _ _⟩; unfold B5G at hG ⊢; exact hG.alloc (by have := hG.size; cases b <;> simp only [if_true, Bool.false_eq_true, if_false] <;> omega) _
          · intro a' W hfr hG hdep
            have d : a'.eval (.tmp 50) = .slice Av nv cv := hdep 1 (by decide +kernel)
            obtain ⟨q, dq, hq, hqc⟩ : ∃ q, a'.eval (.tmp 64) = .slice (some ⟨q, 0, none⟩) 1 1 ∧ wr.heap.size ≤ q ∧ W.heap[q]? = some (.cells #[.slice B1' m d1] 22 (0, 0)) := hdep 15 (by decide +kernel) rfl
            obtain ⟨i0, hi0, hz0, hz1, hz2⟩ := info_parts bs_info2
            have hb : Below wr.heap.size wr W := hG
            have hown : OwnC 22 1 W wb.heap.size W.heap.size (.slice Av nv cv) L.length (L.map (·.1)) := (HI.out.1.row.below hb (Nat.le_refl _)).mono (Nat.le_refl _) hb.size
            refine wp_append_any W (.tmp 50) (.tmp 64) 28 rfl wb.heap.size 22 i0 _ 1 24 Tryz.underlying28 hi0 hz0 hz1 hz2 rfl (by omega) _ L.length _ d hown.1 (q + 1) _ 1 1 [.slice B1' m d1] dq (Reads.oneAt hqc) (by simp [Value.oneCell']) (by have := HI.out.2.2.2; simp only [maxLen]; omega) (by have := HI.out.2.2.2; omega) (by have := hb.size; omega) ?_
            intro v6 w6 h1 h2 h3
            exact ⟨v6, rfl, by simp, ⟨rfl, OwnC.of h1⟩, (hb.mono hgs).grown h2 (by have := hb.size; omega) (fun k hk => (hown.1.lt k hk).1), B5J.turn _ _⟩
          · intro b a' W hfr hG hdep; refine PK_of (by simp) rfl hG ?_; have d := hfr 3 (by decide +kernel); refine F_val ?_ trivial rfl; simp only [execOp, d]; simp [go_sem, Act.eval]
          · intro o ho a' W hd hsz hfr hG hJ
            have e1 : o.op = .store 28 (.tmp 66) (.tmp 65) ∧ o.dst = none := by cases ho; exact ⟨rfl, rfl⟩
            clear ho
            have h16 : true = true ∧ OwnC 22 1 W wb.heap.size W.heap.size (a'.eval (.tmp 65)) (L.length + 1) (L.map (·.1) ++ [.slice B1' m d1]) := hJ 16 (by decide)
            obtain ⟨v6, hv6⟩ : ∃ v6, a'.eval (.tmp 65) = v6 := ⟨_, rfl⟩
            have ho6 := h16.2
            rw [hv6] at ho6
            clear h16
            have hp6 : a'.eval (.tmp 66) = .pointer (some ⟨p, 3, none⟩) := hJ 17 (by decide)
            have hb : Below wb.heap.size wr W := hG
            have hP : Blk W p 45 (ShV.cells { Y with bodies := .slice Av nv cv }) := (hb.block p hPl).trans HI.out.1.atP
            obtain ⟨A6, c6, rfl, _⟩ := ho6.shape
            have HF := HI.out.1.step hPl hb ho6 (RdV.mk HI.out.2.2.1)
            rw [hLn] at HF hv6
            have HF := Lib.hid HF
            have hq6 := hP.cell 3
            have hf6 := hP.frozen 3
            obtain ⟨vs, hvs, e⟩ := act_of_some (by show dstsOk _ 107 = true; decide +kernel) hd hsz hfr
            clear hJ hfr hd hsz hG hvs hb hP ho6
            refine wp_store_cell e1.1 hp6 hv6 hq6 hf6 ?_
            rw [e1.2]
            clear hq6 hf6 hp6 hv6 e1
            have hrg : List.range 19 = [0, 1, 2, 3, 4, 5, 6, 7, 8, 9, 10, 11, 12, 13, 14, 15, 16, 17, 18] := rfl
            simp only [layAll, List.map_cons, List.map_nil, List.size_toArray, List.length_cons, List.length_nil, Nat.reduceAdd, hrg, List.zip_cons_cons, List.zip_nil_left, List.foldl_cons, List.foldl_nil, Act.put, List.setIfInBounds_toArray, List.set_cons_zero, List.set_cons_succ] at e
            subst e
            clear hrg
            go_wp2
            go_roundw
            case rel => exact ⟨j + 1, _, _, by omega, by go_num, HF.out, HI.out.2.1⟩
            case measure => simp [intOf]; omega
        · have hjj : j = min n3 10 := by omega
          have hfin : L.map (·.2) = (s.bodies.take 10).map (·.take 300) := by
            rw [hL]
            have : s.bodies.length = n3 := by rw [← HX.out.2.2.1, List.length_map, HX.out.2.1.len]
            rw [List.take_of_length_le (by omega), List.take_of_length_le (by omega)]
          have HF := Lib.hid (And.intro hB hfin)
          clear hB hL hfin hXr
          go_wp2_with fail
          go_meet
          exact ⟨v, L, HF.out.1, HF.out.2⟩
      · have hjj : j = 10 := by omega
        have HF := Lib.hid (And.intro hB (show L.map (·.2) = (s.bodies.take 10).map (·.take 300) by rw [hL, hjj]))
        clear hB hL hXr
        by_cases hjn : (j : Int) < n3
        · go_wp2_with fail
          go_meet
          exact ⟨v, L, HF.out.1, HF.out.2⟩
        · go_wp2_with fail
          go_meet
          exact ⟨v, L, HF.out.1, HF.out.2⟩
  obtain ⟨v, L, hB, hL⟩ := hcut
  refine hK _ _ ?_
  rw [← HX.out.2.2.2.2.2]
  have hbw := HX.out.1.below.grown hB.grown HX.out.1.below.size (fun k e => by injection e with e; omega)
  have hLn : L.length = min s.bodies.length 10 := by have := congrArg List.length hL; simp at this; omega
  obtain ⟨Av, cv, rfl, _⟩ := hB.row.shape
  have hsz := hB.grown.size
  exact brought_tail2 HX.out.1 (HX.out.1.atX.grown hB.grown (fun e => by injection e with e; omega)) (HX.out.1.atR.grown hB.grown (fun e => by injection e with e; omega)) hB.atP hbw ⟨L, hB.row.mono hPl (Nat.le_refl _), hB.each, hL⟩ hLn _ _ _ _ _ _ _ _ _ _ _ _ _ _ _ _ _ _ _ _ _ _ _ _ _ _ _ _ _ _ _ _ _ _ _ _ _ _ _ _ _ _ _ _ _ _ _ _ _ _ _ _ _ _ _ _ _ _ _ _ _ _ _ _ _ _ _ _ _ _ _ _ _ _ _ _ _ _ _ _ _ _ _ _ _ _ _ _ _ _ _ _ _ _ _ _ _ _ _ _ _ _ _ _
end
end Go.Proofs.YtmpladnglfiejaaGreatDoor
end
