/- Joined of: PeImg PeXs PeColl PeRow2 PeShV. -/
import Derived.Test.YtmpladnglfiejaaGreatDoorPD
import Derived.Deep.MidRow
import Derived.Test.YtmpladnglfiejaaGreatDoorPA
import Derived.Test.YtmpladnglfiejaaGreatDoorProg
import Derived.Test.YtmpladnglfiejaaGreatDoorPC
import Derived.RangeFuncGives
import Derived.RangeFuncBox
import Derived.RangeFuncLeaves
import Derived.Maps.AppendAt
import Derived.Shelf.Abstract
import Derived.WalkKit
import Derived.OwnWalkIn
import Derived.TacticsInMore
import Derived.LoopNIn
import Derived.LoopIn
import Derived.Test.YtmpladnglfiejaaGreatDoorPB
section
/- A whole image in a variable: loaded, stored. -/
namespace Go.Proofs.YtmpladnglfiejaaGreatDoor
open Go.RowKit
set_option maxRecDepth 100000
set_option linter.unusedVariables false
set_option linter.unusedSimpArgs false

/-- What the fields of an image hold. -/
structure IV where
  plus : Bool
  check : Nat
  dir : Nat
  headers : Nat
  secs : Value
  table : Nat
  length : Nat
  sigs : Value
def IV.cells (c : IV) : Array Value := #[.bool c.plus, .int .i64 (c.check : Int), .int .i64 (c.dir : Int), .int .u32 (c.headers : Int), c.secs, .int .u32 (c.table : Int), .int .u32 (c.length : Int), c.sigs]
def IV.val (c : IV) : Value := .agg c.cells
def IV.zero : IV := ⟨false, 0, 0, 0, .slice none 0 0, 0, 0, .slice none 0 0⟩
def IV.One (c : IV) : Prop := (∃ A n c', c.secs = .slice A n c') ∧ (∃ A n c', c.sigs = .slice A n c')
theorem IV.one {c : IV} (h : c.One) : ∀ v ∈ c.cells.toList, v.oneCell' = true := by
  obtain ⟨⟨A, n, k, h1⟩, ⟨A', n', k', h2⟩⟩ := h
  intro v hv
  simp only [IV.cells, h1, h2, List.mem_cons, List.not_mem_nil, or_false] at hv
  rcases hv with rfl | rfl | rfl | rfl | rfl | rfl | rfl | rfl <;> rfl
theorem IV.zero_one : IV.zero.One := ⟨⟨_, _, _, rfl⟩, ⟨_, _, _, rfl⟩⟩
abbrev Bi (w : World) (g : Nat) (C : IV) : Prop := Blk w g 30 C.cells
theorem load_img {w : World} {g : Nat} {C : IV} (h : Bi w g C) : (loadVar 30 ⟨g, 0, none⟩).run Tryz.prog w = .ok C.val w := by
  have hk := h.cell
  exact run_loadVar_mid (P := Tryz.prog) w g 0 30 C.cells.toList _ (fun j v hv => by rw [Nat.zero_add, hk]; simpa using hv) Tryz.underlying30 rfl rfl
theorem put_img {w : World} {g : Nat} {C : IV} (h : Bi w g C) (D : IV) (hD : D.One) :
    (storeCells ⟨g, 0, none⟩ D.cells.toList 0).run Tryz.prog w = .ok () (w.setRow g D.cells) := by
  have := run_storeCells_at (P := Tryz.prog) g 0 30 D.cells.toList 0 C.cells w h (by simp [IV.cells]) (IV.one hD)
  simpa [IV.cells] using this
theorem img_info : (Tryz.prog.info? 30).map (·.size) = some 8 := rfl
theorem run_put_img {w : World} {g : Nat} {C : IV} (h : Bi w g C) (D : IV) (hD : D.One) :
    (storeVar 30 ⟨g, 0, none⟩ (.agg D.cells)).run Tryz.prog w = .ok () (w.setRow g D.cells) := by
  have h1 := put_img h D hD
  cases hq : Tryz.prog.info? 30 with
  | none => have := img_info; rw [hq] at this; cases this
  | some i =>
    have hs : i.size = 8 := by have := img_info; rw [hq] at this; injection this
    simpa [storeVar, sizeOf, typeInfo, hq, Value.cells, hs, IV.cells] using h1
theorem setRow_img {w : World} {g : Nat} {C D : IV} (h : Bi w g C) : Bi (w.setRow g D.cells) g D ∧ w.grownBy (w.setRow g D.cells) (some g) := by
  refine ⟨setRow_heap w g C.cells D.cells _ _ h, rfl, rfl, rfl, by simp [World.setRow], fun k hk hne => ?_⟩
  unfold World.setRow
  simp only [Array.getElem?_modify]
  rw [if_neg (fun e => hne (by rw [e]))]
theorem wpList_store_img {ops : Array Oper} {rest : List Oper} {op : Oper} {a : Act} {w : World} {Q : Exit → Act → World → Prop} (hgd : op.guard = none) (x y : Operand) (ho : op.op = .store 30 x y)
    (g : Nat) (C D : IV) (hx : a.eval x = .pointer (some ⟨g, 0, none⟩)) (hy : a.eval y = .agg D.cells) (hB : Bi w g C) (hD : D.One)
    (h : ∀ w', Bi w' g D → w.grownBy w' (some g) → wpList Tryz.prog ops Q rest (a.put op.dst undef) w') : wpList Tryz.prog ops Q (op :: rest) a w := by
  refine wpList_plain hgd fun K hK => ?_
  unfold Oper.wp execOp
  simp only [ho, hx, hy, Instr.storeAt, Instr.sureAddr, Sem.run_bind, Sem.run_pure, Result.andThen_ok, run_put_img hB D hD]
  exact hK _ _ (h _ (setRow_img hB).1 (setRow_img hB).2)
theorem wpList_load_img {ops : Array Oper} {rest : List Oper} {op : Oper} {a : Act} {w : World} {Q : Exit → Act → World → Prop} (hgd : op.guard = none) (x : Operand) (ho : op.op = .load 30 x)
    (g : Nat) (C : IV) (hx : a.eval x = .pointer (some ⟨g, 0, none⟩)) (hB : Bi w g C) (h : wpList Tryz.prog ops Q rest (a.put op.dst C.val) w) : wpList Tryz.prog ops Q (op :: rest) a w := by
  refine wpList_plain hgd fun K hK => ?_
  unfold Oper.wp execOp
  simp only [ho, hx, Instr.loadAt, Instr.sureAddr, Sem.run_bind, Sem.run_pure, Result.andThen_ok, load_img hB]
  exact hK _ _ h
/-- Fits where the operation at hand stores a whole image. -/
theorem at_store_img {P : Program} {ops : Array Oper} {rest : List Oper} {d : Option Tmp} {ty : TypeId} {pos : String} {af : Array Edge} {g : Option (Nat × Bool)} {x y : Operand} {a : Act} {w : World} {Q : Exit → Act → World → Prop}
    (h : wpList P ops Q ({ dst := d, op := .store 30 x y, type := ty, pos := pos, after := af, guard := g } :: rest) a w) : wpList P ops Q ({ dst := d, op := .store 30 x y, type := ty, pos := pos, after := af, guard := g } :: rest) a w := h
/-- Fits where the operation at hand loads a whole image. -/
theorem at_load_img {P : Program} {ops : Array Oper} {rest : List Oper} {d : Option Tmp} {ty : TypeId} {pos : String} {af : Array Edge} {g : Option (Nat × Bool)} {x : Operand} {a : Act} {w : World} {Q : Exit → Act → World → Prop}
    (h : wpList P ops Q ({ dst := d, op := .load 30 x, type := ty, pos := pos, after := af, guard := g } :: rest) a w) : wpList P ops Q ({ dst := d, op := .load 30 x, type := ty, pos := pos, after := af, guard := g } :: rest) a w := h
theorem results_cell1 {fn : Func} {t : Tmp} {ty : TypeId} (h : fn.results = #[.cell t ty]) (tmps : Array Value) (P : Program) (w : World) (ad : Addr) (v : Value)
    (ha : tmps.getD t undef = .pointer (some ad)) (hl : (loadVar ty ad).run P w = .ok v w) : (results fn tmps).run P w = .ok v w := by
  simp only [Array.getD_eq_getD_getElem?] at ha
  simp [results, h, ha, hl, asAddr]
theorem results_cellTmp {fn : Func} {t u : Tmp} {ty : TypeId} (h : fn.results = #[.cell t ty, .tmp u]) (tmps : Array Value) (P : Program) (w : World) (ad : Addr) (v : Value)
    (ha : tmps.getD t undef = .pointer (some ad)) (hl : (loadVar ty ad).run P w = .ok v w) : (results fn tmps).run P w = .ok (.tuple #[v, tmps.getD u undef]) w := by
  simp only [Array.getD_eq_getD_getElem?] at ha
  simp [results, h, ha, hl, asAddr]
/-- While parse works: the reader's block g, the image's block I. -/
structure PA (w0 : World) (g I : Nat) (s : Value) (f : Bool) (C : IV) (W : World) : Prop where
  grown : w0.grownBy W (some g)
  rd : Blk W g 70 #[s, .bool f]
  im : Bi W I C
  lt : g < w0.heap.size
  le : w0.heap.size ≤ I
theorem PA.stp {w0 W W' : World} {g I : Nat} {s : Value} {f f' : Bool} {C : IV} (h : PA w0 g I s f C W) (hs : Stp g s f' W W') : PA w0 g I s f' C W' := by
  have h1 := h.lt
  have h2 := h.le
  exact ⟨grown_on h.grown hs.grown (fun j e => .inr (by injection e with e; exact e.symm)), hs.blk, h.im.grown hs.grown (fun e => by injection e with e; omega), h1, h2⟩
theorem PA.below {w0 W W' : World} {g I : Nat} {s : Value} {f : Bool} {C : IV} (h : PA w0 g I s f C W) (hb : Below W.heap.size W W') : PA w0 g I s f C W' :=
  ⟨grown_below h.grown hb, h.rd.below hb h.rd.lt, h.im.below hb h.im.lt, h.lt, h.le⟩
theorem PA.drewN {w0 W : World} {g I : Nat} {s : Value} {f : Bool} {C : IV} (h : PA w0 g I s f C W) (n : Nat) : PA w0 g I s f C (W.drewN n) := h.below (below_drewN (Below.refl _ _) n)
theorem PA.rdd {w0 W : World} {g I n c : Nat} {A : Option Addr} {s : Value} {f : Bool} {C : IV} {xs : List UInt8} (h : PA w0 g I s f C W) (hr : Rd w0 g A n c xs) : Rd W g A n c xs := rd_grown hr h.grown (Nat.le_refl _) h.lt
theorem PA.put {w0 W : World} {g I : Nat} {s : Value} {f : Bool} {C D : IV} (h : PA w0 g I s f C W) (i : Nat) (v : Value) (hD : D.cells = C.cells.setIfInBounds i v) : PA w0 g I s f D (W.setCell ⟨I, i, none⟩ v) := by
  have h1 := h.lt
  have h2 := h.le
  exact ⟨grown_on h.grown (grownBy_set W ⟨I, i, none⟩ v) (fun j e => .inl (by injection e with e; show w0.heap.size ≤ j; rw [← e]; exact h2)), h.rd.far (by show g ≠ I; omega) _, by unfold Bi; rw [hD]; exact h.im.set_ i v, h1, h2⟩
theorem PA.store {w0 W W' : World} {g I : Nat} {s : Value} {f : Bool} {C D : IV} (h : PA w0 g I s f C W) (hB : Bi W' I D) (hg : W.grownBy W' (some I)) : PA w0 g I s f D W' := by
  have h1 := h.lt
  have h2 := h.le
  exact ⟨grown_on h.grown hg (fun j e => .inl (by injection e with e; rw [← e]; exact h2)), h.rd.grown hg (fun e => by injection e with e; omega), hB, h1, h2⟩
end Go.Proofs.YtmpladnglfiejaaGreatDoor
end

section
/- Rows of rows: appends onto a [][]byte of the call's own, whose parts lie in blocks of bytes. -/
namespace Go.Proofs.YtmpladnglfiejaaGreatDoor
open Go.RowKit
set_option maxRecDepth 100000
set_option linter.unusedVariables false
set_option linter.unusedSimpArgs false

/-- v reads as xs, in a block of bytes. -/
def RdT (w : World) (v : Value) (xs : List UInt8) : Prop := ∃ A n c, v = .slice A n c ∧ Rd w w.heap.size A n c xs ∧ ∀ ad, A = some ad → ∃ cs fr, w.heap[ad.block]? = some (Obj.cells cs 5 fr)
variable {w w' : World} {lo hi : Nat} {v : Value} {xs : List UInt8} {l : List (Value × List UInt8)}
theorem RdT.rdv (h : RdT w v xs) : RdV w w.heap.size v xs := by
  obtain ⟨A, n, c, rfl, hr, _⟩ := h
  exact RdV.mk hr
theorem RdT.own (h : OwnB w lo w.heap.size v xs) : RdT w v xs := by
  obtain ⟨A, n, c, rfl, hr⟩ := h.rd
  refine ⟨A, n, c, rfl, hr, fun ad e => ?_⟩
  rcases h.1.2 with ⟨e1, _⟩ | ⟨g, cap, cur, e1, _, hg, _⟩
  · injection e1 with e2; rw [e2] at e; cases e
  · injection e1 with e2; rw [e2] at e; injection e with e; subst e; exact ⟨_, _, hg⟩
theorem RdT.blk {g n : Nat} {cs : Array Value} {fr : Nat × Nat} (hg : w.heap[g]? = some (Obj.cells cs 5 fr)) (hr : Rd w w.heap.size (some ⟨g, 0, none⟩) n n xs) : RdT w (.slice (some ⟨g, 0, none⟩) n n) xs :=
  ⟨_, _, _, rfl, hr, fun ad e => by injection e with e; subst e; exact ⟨_, _, hg⟩⟩
theorem RdT.keep (h : RdT w v xs) (hs : w.heap.size ≤ w'.heap.size) (hk : ∀ (g : Nat) (cs : Array Value) (fr : Nat × Nat), w.heap[g]? = some (Obj.cells cs 5 fr) → w'.heap[g]? = w.heap[g]?) : RdT w' v xs := by
  obtain ⟨A, n, c, rfl, hr, ht⟩ := h
  refine ⟨A, n, c, rfl, ⟨hr.len, hr.cap, hr.capm, hr.nil, fun h0 => ?_, ⟨hr.rds.1, fun h0 => ?_⟩⟩, fun ad e => ?_⟩
  · obtain ⟨b, o, e, hb⟩ := hr.spot h0
    exact ⟨b, o, e, by omega⟩
  · obtain ⟨ad, e, hb, hc⟩ := hr.rds.2 h0
    obtain ⟨cs, fr, hg⟩ := ht ad e
    refine ⟨ad, e, by omega, fun j u hu => ?_⟩
    rw [World.cell?_of_block (a := ad.add j) (show w'.heap[(ad.add j).block]? = w.heap[(ad.add j).block]? from by
      have : (ad.add j).block = ad.block := by unfold Addr.add; split <;> rfl
      rw [this]; exact hk _ cs fr hg)]
    exact hc j u hu
  · obtain ⟨cs, fr, hg⟩ := ht ad e
    exact ⟨cs, fr, (hk _ cs fr hg).trans hg⟩
theorem RdT.below (h : RdT w v xs) (hb : Below w.heap.size w w') : RdT w' v xs := h.keep hb.size fun g cs fr hg => hb.block g (Array.getElem?_eq_some_iff.1 hg).1

/-- A row of rows of the call's own. -/
def XS (w : World) (lo : Nat) (v : Value) (l : List (Value × List UInt8)) : Prop :=
  OwnC 22 1 w lo w.heap.size v l.length (l.map (·.1)) ∧ ∀ p ∈ l, RdT w p.1 p.2
theorem XS.nil_ : XS w lo (.slice none 0 0) [] := ⟨OwnC.nil_, fun p hp => by cases hp⟩
theorem XS.below (h : XS w lo v l) (hb : Below w.heap.size w w') : XS w' lo v l := ⟨(h.1.below hb (Nat.le_refl _)).mono (Nat.le_refl _) hb.size, fun p hp => (h.2 p hp).below hb⟩
theorem XS.rdl (h : XS w lo v l) : ∃ A c, v = .slice A l.length c ∧ RdL w w.heap.size A l.length c l := by
  obtain ⟨A, c, rfl, h1, h2, h3, h4⟩ := h.1.shape
  exact ⟨A, c, rfl, ⟨rfl, h1, h2, h4, fun v xs hm => (h.2 _ hm).rdv⟩⟩
theorem XS.lit (w : World) (l : List (Value × List UInt8)) (cs : List Value) (g n : Nat) (hgw : g = w.heap.size) (hcs : cs = l.map (·.1)) (hl : l.length = n) (hn : n ≤ 1000) (h : ∀ p ∈ l, RdT w p.1 p.2) :
    XS (w.alloc (.cells cs.toArray 22)) w.heap.size (.slice (some ⟨g, 0, none⟩) n n) l := by
  subst hcs hl hgw
  refine ⟨⟨⟨by simp, .inr ⟨w.heap.size, _, _, rfl, Nat.le_refl _, heap_alloc_new w _, Nat.le_refl _, by simp only [maxLen]; omega, by simp, by simp only [Nat.mul_one]; rw [List.take_of_length_le (by simp)]⟩⟩, fun k hk => ?_⟩, fun p hp => (h p hp).below ((Below.refl _ _).alloc (Nat.le_refl _) _)⟩
  simp [Value.ownBlock] at hk
  subst hk
  simp
theorem XS.lower {lo' : Nat} (h : XS w lo v l) (hlo : lo' ≤ lo) : XS w lo' v l := ⟨h.1.mono hlo (Nat.le_refl _), h.2⟩
theorem cell_new1 (w : World) (v1 : Value) (t : TypeId) : (w.alloc (.cells #[v1] t)).cell? ⟨w.heap.size, 0, none⟩ = some v1 := (Blk.new w t #[v1]).cell 0
theorem RdT.ownx (h : OwnB w lo hi v xs) (hh : hi ≤ w.heap.size) : RdT w v xs := RdT.own (h.mono (Nat.le_refl _) hh)
theorem RdT.alloc (h : RdT w v xs) (o : Obj) : RdT (w.alloc o) v xs := h.below ((Below.refl _ _).alloc (Nat.le_refl _) _)
theorem XS.alloc (h : XS w lo v l) (o : Obj) : XS (w.alloc o) lo v l := h.below ((Below.refl _ _).alloc (Nat.le_refl _) _)
theorem bs_info2 : (Tryz.prog.info? 22).map (fun i => (i.zero, i.size, i.bytes)) = some (some (.slice none 0 0), 1, 24) := by rfl
theorem wpList_xs {ops : Array Oper} {rest : List Oper} {o : Oper} {a : Act} {Q : Exit → Act → World → Prop} (hgd : o.guard = none) (s x : Operand)
    (ho : o.op = .call { callee := .builtin .append, args := #[s, x], argTypes := #[28, 28] })
    (lo : Nat) (v : Value) (l : List (Value × List UInt8)) (hs : a.eval s = v) (hown : XS w lo v l) (hlo : lo ≤ w.heap.size)
    (g : Nat) (v1 : Value) (x1 : List UInt8) (hx : a.eval x = .slice (some ⟨g, 0, none⟩) 1 1) (hg : w.cell? ⟨g, 0, none⟩ = some v1) (hgl : g < w.heap.size) (h1 : RdT w v1 x1) (hlen : l.length ≤ 1000)
    (h : ∀ v' w', XS w' lo v' (l ++ [(v1, x1)]) → Below lo w w' → wpList Tryz.prog ops Q rest (a.put o.dst v') w') :
    wpList Tryz.prog ops Q (o :: rest) a w := by
  have hone : v1.oneCell' = true := by obtain ⟨A, n, c, rfl, _⟩ := h1; rfl
  refine wpList_appC hgd s x 28 ho 22 _ 1 24 bs_info2 Tryz.underlying28 rfl (by omega) lo w.heap.size v l.length (l.map (·.1)) hs hown.1 hlo (g + 1) _ 1 1 [v1] hx ⟨rfl, fun _ => ⟨_, rfl, by simp, fun j u hu => ?_⟩⟩ (by simpa using hone) (by omega) (by omega) ?_
  · rcases j with _ | j
    · simp only [List.getElem?_cons_zero, Option.some.injEq] at hu; subst hu; exact hg
    · simp at hu
  intro v' w' h1' h2 h3 h4
  have hkeep : ∀ (g : Nat) (cs : Array Value) (fr : Nat × Nat), w.heap[g]? = some (Obj.cells cs 5 fr) → w'.heap[g]? = w.heap[g]? := fun g cs fr hgg => by
    refine h2.block g (Array.getElem?_eq_some_iff.1 hgg).1 (fun e => ?_)
    rcases hown.1.1.2 with ⟨e1, _⟩ | ⟨g0, cap, cur, e1, _, hg0, _⟩
    · rw [e1] at e; simp [Value.ownBlock] at e
    · rw [e1] at e
      simp [Value.ownBlock] at e
      subst e
      rw [hg0] at hgg
      injection hgg with e2
      injection e2 with e3 e4
      exact absurd e4 (by decide)
  refine h v' w' ⟨by rw [List.length_append, List.map_append]; exact h1', fun p hp => ?_⟩ h4
  rcases List.mem_append.1 hp with hp | hp
  · exact (hown.2 p hp).keep h2.size hkeep
  · obtain rfl := List.mem_singleton.1 hp
    exact h1.keep h2.size hkeep
/-- A literal of bytes, converted to its own type. -/
theorem lit_frozen (w : World) (xs : List UInt8) (q : Nat) (hq : q = w.heap.size) (hn : xs.length ≤ 15) (cs : Array Value) (hcs : cs = (xs.map bv).toArray) (m : Nat) (hm : m = xs.length) :
    Rd ((w.alloc (.cells cs 5)).freeze ⟨q, m, none⟩ 1) (w.heap.size + 1) (some ⟨q, 0, none⟩) m m xs ∧ Below w.heap.size w ((w.alloc (.cells cs 5)).freeze ⟨q, m, none⟩ 1) := by
  subst hq hcs hm
  have heq : ((w.alloc (.cells (xs.map bv).toArray 5)).freeze ⟨w.heap.size, xs.length, none⟩ 1).heap[w.heap.size]? = some (.cells (xs.map bv).toArray 5 (xs.length, xs.length + 1)) := by
    unfold World.freeze
    rw [if_neg (by omega)]
    simp only [Array.getElem?_modify, if_true]
    rw [heap_alloc_new w _]; simp
  have hne : ∀ k, k < w.heap.size → ((w.alloc (.cells (xs.map bv).toArray 5)).freeze ⟨w.heap.size, xs.length, none⟩ 1).heap[k]? = w.heap[k]? := fun k hk => by
    unfold World.freeze
    rw [if_neg (by omega)]
    simp only [Array.getElem?_modify]
    rw [if_neg (by omega)]
    exact Below.heap_alloc _ _ k hk
  refine ⟨⟨rfl, Nat.le_refl _, by omega, (fun e => by cases e), fun _ => ⟨_, _, rfl, by omega⟩, by simp, fun _ => ⟨_, rfl, by show w.heap.size < _; omega, fun j u hu => ?_⟩⟩, ?_, ?_, ?_, ?_, fun k hk => hne k hk⟩
  · rw [Addr.add_lit, Nat.zero_add]
    exact (cell_of_row _ _ j _ _ _ heq).trans (by simpa using hu)
  all_goals (unfold World.freeze; rw [if_neg (by omega)]; first | rfl | simp)
theorem conv_frozen (w : World) (xs : List UInt8) (q : Nat) (hq : q = w.heap.size) (cs : Array Value) (hcs : cs = (xs.map bv).toArray) (m : Nat) (hm : m = xs.length) :
    (convert 22 22 (.slice (some ⟨q, 0, none⟩) m m)).run Tryz.prog (w.alloc (.cells cs 5)) = .ok (.slice (some ⟨q, 0, none⟩) m m) ((w.alloc (.cells cs 5)).freeze ⟨q, m, none⟩ 1) := by
  subst hq hcs hm
  have hsh : (w.alloc (.cells (xs.map bv).toArray 5)).shape? w.heap.size = some (5, xs.length) := by
    unfold World.shape?
    rw [heap_alloc_new w _]; simp
  simp [convert, run_underlying Tryz.underlying22, run_underlying Tryz.underlying5, markStringish, hsh]
end Go.Proofs.YtmpladnglfiejaaGreatDoor
end

section
/- slices of sections; slices.Values, slices.AppendSeq, slices.Collect of them (lines of the worked proof GgCollectAtTheDump turned). -/
namespace Go.Proofs.YtmpladnglfiejaaGreatDoor
open Go.RowKit Go.Maps Go.Shelf
attribute [local go_sem] Oper.semAt_some
set_option maxRecDepth 100000
set_option linter.unusedVariables false
set_option linter.unusedSimpArgs false

/-- A section's two cells; its value. -/
def secC (x : Nat × Nat) : List Value := [.int .u32 (x.1 : Int), .int .u32 (x.2 : Int)]
def secV (x : Nat × Nat) : Value := .agg #[.int .u32 (x.1 : Int), .int .u32 (x.2 : Int)]
theorem secC_len (l : List (Nat × Nat)) : (l.flatMap secC).length = l.length * 2 := by
  induction l with
  | nil => rfl
  | cons x l ih => rw [List.flatMap_cons, List.length_append, ih, List.length_cons]; simp [secC]; omega
theorem secC_get : ∀ (l : List (Nat × Nat)) (k : Nat) (x : Nat × Nat), l[k]? = some x → (l.flatMap secC)[k * 2]? = some (.int .u32 (x.1 : Int)) ∧ (l.flatMap secC)[k * 2 + 1]? = some (.int .u32 (x.2 : Int))
  | [], _, _, h => by cases h
  | y :: l, 0, x, h => by
    simp only [List.getElem?_cons_zero, Option.some.injEq] at h
    subst h
    exact ⟨rfl, rfl⟩
  | y :: l, k + 1, x, h => by
    simp only [List.getElem?_cons_succ] at h
    have ih := secC_get l k x h
    rw [List.flatMap_cons, show (k + 1) * 2 = k * 2 + 1 + 1 by omega]
    exact ih
theorem secC_one (l : List (Nat × Nat)) : ∀ u ∈ l.flatMap secC, u.oneCell' = true := by
  intro u hu
  obtain ⟨x, _, hx⟩ := List.mem_flatMap.1 hu
  simp only [secC, List.mem_cons, List.not_mem_nil, or_false] at hx
  rcases hx with rfl | rfl <;> rfl
/-- A slice of sections, as it reads. -/
structure RdS (w : World) (B : Nat) (A : Option Addr) (n c : Nat) (l : List (Nat × Nat)) : Prop where
  len : l.length = n
  cap : n ≤ c
  capm : c ≤ 9223372036854775807
  spot : 0 < n → ∃ b o, A = some ⟨b, o, none⟩ ∧ b < B
  rds : Reads w B 2 A n (l.flatMap secC)
section
variable {w w' : World} {B B' n c : Nat} {A : Option Addr} {l : List (Nat × Nat)}
theorem RdS.keep (h : RdS w B A n c l) (hk : ∀ p : Addr, p.block < B → w'.cell? p = w.cell? p) : RdS w' B A n c l := ⟨h.len, h.cap, h.capm, h.spot, h.rds.keep hk⟩
theorem RdS.below (h : RdS w B A n c l) (hb : Below B w w') : RdS w' B A n c l := h.keep fun _ hp => hb.cell hp
theorem RdS.more (h : RdS w B A n c l) (hB : B ≤ B') : RdS w B' A n c l :=
  ⟨h.len, h.cap, h.capm, fun hc => by obtain ⟨b, o, e, hb⟩ := h.spot hc; exact ⟨b, o, e, by omega⟩, h.rds.more hB⟩
theorem RdS.up (h : RdS w w.heap.size A n c l) (hb : Below w.heap.size w w') : RdS w' w'.heap.size A n c l := (h.below hb).more hb.size
theorem RdS.none_ : RdS w B none 0 0 [] := ⟨rfl, Nat.le_refl _, by omega, fun h => absurd h (by omega), Reads.none_⟩
theorem RdS.get (h : RdS w B A n c l) {k : Nat} (hk : k < n) : ∃ b o x, A = some ⟨b, o, none⟩ ∧ b < B ∧ l[k]? = some x ∧ w.cell? ⟨b, o + k * 2, none⟩ = some (.int .u32 (x.1 : Int)) ∧ w.cell? ⟨b, o + k * 2 + 1, none⟩ = some (.int .u32 (x.2 : Int)) := by
  obtain ⟨b, o, rfl, hb⟩ := h.spot (by omega)
  obtain ⟨ad, e, _, hc⟩ := h.rds.2 (by omega)
  injection e with e
  subst e
  have hx : l[k]? = some (l[k]'(by have := h.len; omega)) := List.getElem?_eq_getElem _
  obtain ⟨g1, g2⟩ := secC_get l k _ hx
  have c1 := hc _ _ g1
  have c2 := hc _ _ g2
  rw [Addr.add_lit] at c1 c2
  exact ⟨b, o, _, rfl, hb, hx, c1, c2⟩
end
theorem OwnC.rdS {w : World} {lo hi n : Nat} {v : Value} {l : List (Nat × Nat)} (h : OwnC 59 2 w lo hi v n (l.flatMap secC)) : ∃ A c, v = .slice A n c ∧ RdS w hi A n c l := by
  obtain ⟨A, c, rfl, h1, h2, h3, h4⟩ := h.shape
  have hl : l.length = n := by have := h4.1; rw [secC_len] at this; omega
  refine ⟨A, c, rfl, hl, h1, h2, fun hn => ?_, h4⟩
  obtain ⟨g, cap, e, hg, _⟩ := h.1.form hn
  injection e with e1 e2 e3
  subst e1
  obtain ⟨ad, e, hlt, _⟩ := h4.2 hn
  injection e with e
  subst e
  exact ⟨g, 0, rfl, hlt⟩
theorem sec_info : (Tryz.prog.info? 59).map (fun i => (i.zero, i.size, i.bytes)) = some (some (.agg #[.int .u32 0, .int .u32 0]), 2, 8) := by kernel_rfl

set_option maxHeartbeats 2000000 in
/-- slices.Values's closure: the parts come in their order. -/
theorem secValues1_in (n : Nat) (hn : 1 ≤ n) (l Bn n₀ : Nat) (w₀ : World) (A : Option Addr) (m c : Nat) (L : List (Nat × Nat)) (hr : RdS w₀ n₀ A m c L) (hm : m ≤ 1099511627776) (J : List (Nat × Nat) → World → Prop)
    (hJb : ∀ s X, J s X → Below n₀ w₀ X) (hJa : ∀ s X a b, J s X → J s (X.alloc (.cells #[a, b] 59)))
    (hY : ∀ pre v W, J pre W → pre.length < m → YieldAt Fence.wide (n - 1) Tryz.prog l #[secV v] W fun e W' => e = .returned (.bool true) ∧ J (pre ++ [v]) W')
    (W : World) (hW : W.cell? ⟨Bn, 0, none⟩ = some (.slice A m c)) (h0 : J [] W) :
    CallsIn Fence.wide n Tryz.prog 63 #[.func (.yield l) #[] #[], .pointer (some ⟨Bn, 0, none⟩)] W fun e W' => (∃ v, e = .returned v) ∧ J L W' := by
  refine callsIn_of_wp Tryz.func63 rfl trivial ?_ rfl
  simp only [Tryz.ntmps63, List.size_toArray, List.length_cons, List.length_nil, Nat.reduceAdd, Nat.reduceSub, Array.replicate_succ, Array.replicate_zero, List.push_toArray, List.append_toArray, List.nil_append, List.cons_append]
  have hlen := hr.len
  gi_wp2
  gi_loopw [7] (fun i wr => ∃ k : Nat, k ≤ m ∧ i = .int .i64 k ∧ J (L.take k) wr)
    (fun i _ => m - (intOf i).toNat)
  case atStart => exact ⟨0, Nat.zero_le _, rfl, by simpa using h0⟩
  case round =>
    obtain ⟨k, hk, rfl, hJs⟩ := hrel
    by_cases hlt : k < m
    · obtain ⟨b, o, x, rfl, hb, hx, hc0, hc1⟩ := hr.get hlt
      have hcx := ((hJb _ _ hJs).cell (p := ⟨b, o + k * 2, none⟩) hb).trans hc0
      have hcy := ((hJb _ _ hJs).cell (p := ⟨b, o + k * 2 + 1, none⟩) hb).trans hc1
      have hJ1 := hJa _ _ (.int .u32 (x.1 : Int)) (.int .u32 (x.2 : Int)) hJs
      obtain ⟨fn, tmps, assign, body, hy, hR⟩ := hY _ x _ hJ1 (by rw [List.length_take]; omega)
      have ht := take_snoc hx
      unfold secV at hy
      have hlt' : (k : Int) < m := by omega
      have HT := Lib.hid (And.intro ht hx)
      have HJ := Lib.hid (And.intro hJs (And.intro hY (And.intro hJb hJ1)))
      clear ht hx hc0 hc1 hJs hY hJb hr h0 hW hJ1 hJa
      gi_wp2
      refine hR.mono ?_
      rintro e W3 ⟨rfl, hJ3⟩
      gi_wp2
      go_roundw
      case rel => exact ⟨k + 1, by omega, by simp, by rw [HT.out.1]; exact hJ3⟩
      case measure => simp [intOf]; omega
    · obtain rfl : k = m := by omega
      gi_wp2
      go_end0
      exact ⟨⟨_, rfl⟩, by rwa [List.take_of_length_le (by omega)] at hJs⟩
/-! ### slices.AppendSeq(nil, seq) -/
def apAssign : Code := (Code.region 2 #[{ dst := some 5, op := Op.alloc 59, type := 0, pos := "iter.go:51", after := #[], guard := none }, { dst := none, op := Op.store 59 (Operand.tmp 5) (Operand.tmp 7), type := 0, pos := "iter.go:51", after := #[{ on := 0, ground := Ground.data }, { on := 0, ground := Ground.phase }], guard := none }] false)
def apBody : Code := (Code.block 1 (Code.region 3 #[{ dst := some 8, op := Op.load 27 (Operand.tmp 2), type := 27, pos := "iter.go:52", after := #[], guard := none }, { dst := some 9, op := Op.load 59 (Operand.tmp 5), type := 59, pos := "iter.go:52", after := #[], guard := none }, { dst := some 10, op := Op.buildSlice 27 1 #[(0, Operand.tmp 9)], type := 27, pos := "iter.go:52", after := #[{ on := 1, ground := Ground.data }], guard := none }, { dst := some 11, op := Op.call { callee := Callee.builtin Builtin.append, args := #[Operand.tmp 8, Operand.tmp 10], argTypes := #[27, 27] }, type := 27, pos := "iter.go:52", after := #[{ on := 0, ground := Ground.data }, { on := 2, ground := Ground.data }], guard := none }, { dst := none, op := Op.store 27 (Operand.tmp 2) (Operand.tmp 11), type := 0, pos := "iter.go:52", after := #[{ on := 3, ground := Ground.data }, { on := 3, ground := Ground.chain }, { on := 0, ground := Ground.phase }, { on := 1, ground := Ground.phase }, { on := 2, ground := Ground.phase }, { on := 3, ground := Ground.phase }], guard := none }] false))
def apRec (fn : FuncId) (sv : Value) (Bs D : Nat) (st : LoopState) (pend : Option Code) : Loop :=
  { state := st, pending := pend, fn, tmps := #[.slice none 0 0, sv, .pointer (some ⟨Bs, 0, none⟩), undef, .slice none 0 0, undef, sv, undef, undef, undef, undef, undef, undef], params := #[7], assign := apAssign, body := apBody, defers := D }
structure ApAt (w0 : World) (fn : FuncId) (sv : Value) (Bs l D : Nat) (ss : List (Nat × Nat)) (W : World) : Prop where
  box : ∃ v, W.heap[Bs]? = some (.cells #[v] 27 (0, 0)) ∧ W.ownsRow w0.heap.size 59 2 v ss.length (ss.flatMap secC)
  L : W.heap[l]? = some (.loop (apRec fn sv Bs D .ready none))
  K : W.heap[D]? = some (.deferred (some []))
  below : Below w0.heap.size w0 W
theorem grownBy_putObj (W : World) (l : Nat) (o : Obj) : W.grownBy (W.putObj l o) (some l) :=
  ⟨rfl, rfl, rfl, by simp, fun k _ hk => World.putObj_heap_other (fun e => hk (by rw [e]))⟩
theorem grownBy_setCell0 (W : World) (b : Nat) (v : Value) : W.grownBy (W.setCell ⟨b, 0, none⟩ v) (some b) :=
  ⟨rfl, rfl, rfl, (KeepsWalks.setCell W _ v).size, fun k _ hk => Below.heap_setCell _ _ _ k (fun e => hk (by rw [e]))⟩
/-- A slice's own row is not a block that holds something else than cells of its element's type. -/
theorem ownsRow_ne {W : World} {base : Nat} {e : TypeId} {size : Nat} {v : Value} {k : Nat} {xs : List Value} (h : W.ownsRow base e size v k xs) {j : Nat} {o : Obj} (hj : W.heap[j]? = some o) (hno : ∀ cur, o ≠ .cells cur e (0, 0)) :
    v.ownBlock = none ∨ v.ownBlock ≠ some j := by
  rcases h.2 with ⟨rfl, _⟩ | ⟨g, cap, cur, rfl, _, hgb, _⟩
  · exact .inl rfl
  · refine .inr fun e' => ?_
    have : g = j := by simpa [Value.ownBlock] using e'
    subst this; rw [hgb] at hj; cases hj; exact hno cur rfl
theorem cell_of_box {W : World} {B : Nat} {v : Value} {t : TypeId} (h : W.heap[B]? = some (.cells #[v] t (0, 0))) : W.cell? ⟨B, 0, none⟩ = some v ∧ W.frozen? ⟨B, 0, none⟩ = false := by
  constructor <;> simp [World.cell?, World.frozen?, h]

theorem heap_setCell_box {W : World} {B : Nat} {v : Value} {t : TypeId} (v' : Value) (h : W.heap[B]? = some (.cells #[v] t (0, 0))) : (W.setCell ⟨B, 0, none⟩ v').heap[B]? = some (.cells #[v'] t (0, 0)) := by
  obtain ⟨hlt, hk⟩ := Array.getElem?_eq_some_iff.1 h
  show (W.heap.modify B _)[B]? = _
  rw [Array.getElem?_eq_getElem (by rw [Array.size_modify]; exact hlt), Array.getElem_modify_self, hk]
  rfl

set_option maxRecDepth 100000 in
set_option maxHeartbeats 2000000 in
theorem apYield (m : Nat) (w0 : World) (fn : FuncId)  (sv : Value) (Bs l D : Nat) (hBl : Bs ≠ l) (hDl : D ≠ l) (hDB : D ≠ Bs) (h0B : w0.heap.size ≤ Bs) (h0l : w0.heap.size ≤ l)
    (N : Nat) (hN : N ≤ maxLen) (hNb : N * 8 ≤ 140737488355328) (ss : List (Nat × Nat)) (x : Nat × Nat) (W : World) (h : ApAt w0 fn sv Bs l D ss W) (hlen : ss.length < N) :
    YieldAt Fence.wide m Tryz.prog l #[secV x] W fun e W' => e = .returned (.bool true) ∧ ApAt w0 fn sv Bs l D (ss ++ [x]) W' := by
  unfold secV
  obtain ⟨i0, hi, hz0, hz1, hz2⟩ := info_parts sec_info
  obtain ⟨v, hv, hrow⟩ := h.box
  refine ⟨fn, #[.slice none 0 0, sv, .pointer (some ⟨Bs, 0, none⟩), undef, .slice none 0 0, undef, sv, .agg #[.int .u32 (x.1 : Int), .int .u32 (x.2 : Int)], undef, undef, undef, undef, undef], apAssign, apBody, by simpa [apRec] using run_yield (P := Tryz.prog) (args := #[.agg #[.int .u32 (x.1 : Int), .int .u32 (x.2 : Int)]]) h.L rfl, roundIn_of_wpIn trivial ?_⟩
  have hl : l < W.heap.size := (Array.getElem?_eq_some_iff.1 h.L).1
  have hDl0 : D < W.heap.size := (Array.getElem?_eq_some_iff.1 h.K).1
  have hBl0 : Bs < W.heap.size := (Array.getElem?_eq_some_iff.1 hv).1
  obtain ⟨Wa, hWa⟩ : ∃ Wa, W.alloc (.cells #[.int .u32 (x.1 : Int), .int .u32 (x.2 : Int)] 59) = Wa := ⟨_, rfl⟩
  have hLa : Wa.heap[l]? = some (.loop (apRec fn sv Bs D .ready none)) := by rw [← hWa]; exact (Below.heap_alloc W _ l hl).trans h.L
  have hKa : Wa.heap[D]? = some (.deferred (some [])) := by rw [← hWa]; exact (Below.heap_alloc W _ D hDl0).trans h.K
  have hva : Wa.heap[Bs]? = some (.cells #[v] 27 (0, 0)) := by rw [← hWa]; exact (Below.heap_alloc W _ Bs hBl0).trans hv
  have hrowa : Wa.ownsRow w0.heap.size 59 2 v ss.length (ss.flatMap secC) := by rw [← hWa]; exact hrow.alloc _
  have hba : Below w0.heap.size w0 Wa := by rw [← hWa]; exact h.below.alloc h.below.size _
  have hXa : Blk Wa W.heap.size 59 #[.int .u32 (x.1 : Int), .int .u32 (x.2 : Int)] := by rw [← hWa]; exact Blk.new _ _ _
  have hbr := run_beginRound (P := Tryz.prog) hLa rfl
  unfold apAssign
  gi_wp2
  try rw [hWa]
  refine ⟨_, hbr, ?_⟩
  clear hWa
  have hla : l < Wa.heap.size := (Array.getElem?_eq_some_iff.1 hLa).1
  obtain ⟨W2, hW2⟩ : ∃ W2, Wa.putObj l (.loop { apRec fn sv Bs D .ready none with state := .busy }) = W2 := ⟨_, rfl⟩
  rw [hW2]
  have hg2 : Wa.grownBy W2 (some l) := by rw [← hW2]; exact grownBy_putObj _ _ _
  have hv2 : W2.heap[Bs]? = some (.cells #[v] 27 (0, 0)) := by rw [← hW2]; exact (World.putObj_heap_other hBl).trans hva
  have hK2 : W2.heap[D]? = some (.deferred (some [])) := by rw [← hW2]; exact (World.putObj_heap_other hDl).trans hKa
  have hL2 : W2.heap[l]? = some (.loop { apRec fn sv Bs D .ready none with state := .busy }) := by rw [← hW2]; exact World.putObj_heap_same hla
  have hX2 : Blk W2 W.heap.size 59 #[.int .u32 (x.1 : Int), .int .u32 (x.2 : Int)] := by rw [← hW2]; exact (World.putObj_heap_other (by omega)).trans hXa
  have hrow2 : W2.ownsRow w0.heap.size 59 2 v ss.length (ss.flatMap secC) := hrowa.kept hg2 (ownsRow_ne hrowa hLa (fun cur e => by cases e))
  have hb2 : Below w0.heap.size w0 W2 := hba.grown hg2 hba.size (fun k e => by cases e; exact h0l)
  obtain ⟨hc2, hf2⟩ := cell_of_box hv2
  obtain ⟨hcX, _⟩ := hX2.facts
  have hcX0 : W2.cell? ⟨W.heap.size, 0, none⟩ = some (.int .u32 (x.1 : Int)) := hcX 0
  have hcX1 : W2.cell? ⟨W.heap.size, 1, none⟩ = some (.int .u32 (x.2 : Int)) := hcX 1
  have hBlt : Bs < W2.heap.size := (Array.getElem?_eq_some_iff.1 hv2).1
  have hl2 : l < W2.heap.size := (Array.getElem?_eq_some_iff.1 hL2).1
  have hDlt : D < W2.heap.size := (Array.getElem?_eq_some_iff.1 hK2).1
  have ne_of : ∀ {j : Nat} {o : Obj}, W2.heap[j]? = some o → (∀ cur, o ≠ .cells cur 59 (0, 0)) → some j ≠ v.ownBlock := fun hj hno => by
    rcases ownsRow_ne hrow2 hj hno with e | e
    · rw [e]; simp
    · exact fun e' => e e'.symm
  have hnew : ∀ j u, ([.int .u32 (x.1 : Int), .int .u32 (x.2 : Int)] : List Value)[j]? = some u → (W2.alloc (.cells #[.int .u32 (x.1 : Int), .int .u32 (x.2 : Int)] 59)).cell? ((⟨W2.heap.size, 0, none⟩ : Addr).add j) = some u := by
    intro j u hj
    have := (Blk.new W2 59 #[.int .u32 (x.1 : Int), .int .u32 (x.2 : Int)]).cell j
    rw [Addr.add_lit, Nat.zero_add, this]
    simpa using hj
  clear hW2 hcX
  unfold apBody
  gi_wp2_with (first
    | (gi_at_builtin; refine wpListIn_append_own _ rfl _ _ 27 rfl w0.heap.size 59 i0 (.agg #[.int .u32 0, .int .u32 0]) 2 8 Tryz.underlying27 hi hz0 hz1 hz2 rfl (by decide) _ _ _ rfl (hrow2.alloc _) ⟨W2.heap.size, 0, none⟩ 1 1 [.int .u32 (x.1 : Int), .int .u32 (x.2 : Int)] rfl rfl hnew (by simp [Value.oneCell']) (by omega) (by omega) (by have := hb2.size; simp; omega) ?_; intro v' w3 hown' hg3 hnil3
       have hv3 : w3.heap[Bs]? = some (.cells #[v] 27 (0, 0)) := (hg3.block Bs (by simp; omega) (ne_of hv2 (fun cur e => by cases e))).trans ((Below.heap_alloc _ _ Bs hBlt).trans hv2)
       obtain ⟨hc3, hf3⟩ := cell_of_box hv3
       obtain ⟨g', cap', cur', rfl, hbase', hgb', hr1, hr2, hr3, hr4⟩ : ∃ g' cap' cur', v' = .slice (some ⟨g', 0, none⟩) (ss.length + 1) cap' ∧ w0.heap.size ≤ g' ∧ w3.heap[g']? = some (.cells cur' 59 (0, 0)) ∧ ss.length + 1 ≤ cap' ∧ cap' ≤ maxLen ∧ cur'.size = cap' * 2 ∧ cur'.toList.take ((ss.length + 1) * 2) = ss.flatMap secC ++ [.int .u32 (x.1 : Int), .int .u32 (x.2 : Int)] := by
         rcases hown'.2 with ⟨_, h0⟩ | h'
         · exact absurd h0 (by omega)
         · exact h'
       go_frame)
    | (rw [Oper.semAt_eq _ _ _ (fun c h => by cases h)]; go_simp; try go_bits))
  have hg3' : (W2.alloc (.cells #[.int .u32 (x.1 : Int), .int .u32 (x.2 : Int)] 59)).grownBy w3 v.ownBlock := hg3
  have hL3 : w3.heap[l]? = some (.loop { apRec fn sv Bs D .ready none with state := .busy }) := (hg3'.block l (by simp; omega) (ne_of hL2 (fun cur e => by cases e))).trans ((Below.heap_alloc _ _ l hl2).trans hL2)
  have hK3 : w3.heap[D]? = some (.deferred (some [])) := (hg3'.block D (by simp; omega) (ne_of hK2 (fun cur e => by cases e))).trans ((Below.heap_alloc _ _ D hDlt).trans hK2)
  obtain ⟨w4, hw4⟩ : ∃ w4, w3.setCell ⟨Bs, 0, none⟩ (.slice (some ⟨g', 0, none⟩) (ss.length + 1) cap') = w4 := ⟨_, rfl⟩
  rw [hw4]
  have hg4 : w3.grownBy w4 (some Bs) := by rw [← hw4]; exact grownBy_setCell0 _ _ _
  have hv4 : w4.heap[Bs]? = some (.cells #[.slice (some ⟨g', 0, none⟩) (ss.length + 1) cap'] 27 (0, 0)) := by rw [← hw4]; exact heap_setCell_box _ hv3
  have hL4 : w4.heap[l]? = some (.loop { apRec fn sv Bs D .ready none with state := .busy }) := (hg4.block l (Array.getElem?_eq_some_iff.1 hL3).1 (fun e => hBl (by cases e; rfl))).trans hL3
  have hK4 : w4.heap[D]? = some (.deferred (some [])) := (hg4.block D (Array.getElem?_eq_some_iff.1 hK3).1 (fun e => hDB (by cases e; rfl))).trans hK3
  have hrow4 := hown'.kept hg4 (ownsRow_ne hown' hv3 (fun cur e => by cases e))
  have hl4 : l < w4.heap.size := (Array.getElem?_eq_some_iff.1 hL4).1
  have hb3 : Below w0.heap.size w0 w3 := (hb2.alloc hb2.size _).grown hg3' (by have := hb2.size; simp; omega) (fun k e => (hrow2.lt k e).1)
  have hb4 : Below w0.heap.size w0 w4 := hb3.grown hg4 hb3.size (fun k e => by cases e; exact h0B)
  clear hw4
  refine ⟨_, _, run_endRound none hL4, rfl, ⟨⟨_, (World.putObj_heap_other hBl).trans hv4, ?_⟩, World.putObj_heap_same hl4, (World.putObj_heap_other hDl).trans hK4, hb4.grown (grownBy_putObj _ _ _) hb4.size (fun k e => by cases e; exact h0l)⟩⟩
  have := hrow4.kept (grownBy_putObj w4 l (.loop { { apRec fn sv Bs D .ready none with state := .busy } with state := if (none : Option Code).isNone then .ready else .done, pending := none })) (ownsRow_ne hrow4 hL4 (fun cur e => by cases e))
  rw [List.length_append, List.flatMap_append]
  exact this

theorem ApAt.alloc2 {w0 : World} {fn : FuncId} {sv : Value} {Bs l D : Nat} {ss : List (Nat × Nat)} {W : World} (h : ApAt w0 fn sv Bs l D ss W) {o : Obj} : ApAt w0 fn sv Bs l D ss (W.alloc o) := by
  obtain ⟨v, hv, hrow⟩ := h.box
  exact ⟨⟨v, (Below.heap_alloc W _ Bs (Array.getElem?_eq_some_iff.1 hv).1).trans hv, hrow.alloc _⟩, (Below.heap_alloc W _ l (Array.getElem?_eq_some_iff.1 h.L).1).trans h.L, (Below.heap_alloc W _ D (Array.getElem?_eq_some_iff.1 h.K).1).trans h.K, h.below.alloc h.below.size _⟩
set_option maxRecDepth 100000 in
set_option maxHeartbeats 2000000 in
/-- slices.AppendSeq onto nil of what slices.Values gives: the same parts, in a row of the call's own. -/
theorem appendSeq_in (n : Nat) (hn : 3 ≤ n) (Bn : Nat) (A : Option Addr) (m c : Nat) (L : List (Nat × Nat)) (w : World) (hr : RdS w w.heap.size A m c L) (hm : m ≤ 1099511627776) (hBn : w.cell? ⟨Bn, 0, none⟩ = some (.slice A m c)) (hBl : Bn < w.heap.size) :
    CallsIn Fence.wide n Tryz.prog 83 #[.slice none 0 0, .func (.func 63) #[] #[.pointer (some ⟨Bn, 0, none⟩)]] w fun e w' => ∃ v : Value, e = .returned v ∧ w'.ownsRow w.heap.size 59 2 v L.length (L.flatMap secC) ∧ Below w.heap.size w w' := by
  have h1 : 1 ≤ n := by omega
  refine callsIn_of_wp_marks Tryz.func83 rfl trivial ?_ rfl
  simp only [Tryz.ntmps83, List.size_toArray, List.length_cons, List.length_nil, Nat.reduceAdd, Nat.reduceSub, Array.replicate_succ, Array.replicate_zero, List.push_toArray, List.append_toArray, List.nil_append, List.cons_append]
  gi_wp2
  refine wpIn_rangeFunc ?_
  intro fn hfn
  obtain ⟨W0, hW0⟩ : ∃ W0, w.alloc (.cells #[.slice none 0 0] 27) = W0 := ⟨_, rfl⟩
  have hs0 : W0.heap.size = w.heap.size + 1 := by rw [← hW0]; simp
  have hv0 : W0.heap[w.heap.size]? = some (.cells #[.slice none 0 0] 27 (0, 0)) := by rw [← hW0]; exact World.alloc_heap_new w _
  have hb0 : Below w.heap.size w W0 := by rw [← hW0]; exact (Below.refl _ w).alloc (Nat.le_refl _) _
  rw [hW0]
  obtain ⟨W1, hW1⟩ : ∃ W1, (W0.alloc (.deferred (some []))).alloc (.loop (apRec fn (.func (.func 63) #[] #[.pointer (some ⟨Bn, 0, none⟩)]) w.heap.size W0.heap.size .ready none)) = W1 := ⟨_, rfl⟩
  have hold : ∀ k, k < W0.heap.size → W1.heap[k]? = W0.heap[k]? := fun k hk => by
    rw [← hW1]; exact (Below.heap_alloc _ _ k (by simp; omega)).trans (Below.heap_alloc _ _ k hk)
  have hb1 : Below w.heap.size w W1 := by rw [← hW1]; exact (hb0.alloc hb0.size _).alloc (by have := hb0.size; simp; omega) _
  have hs1 : W1.heap.size = W0.heap.size + 2 := by rw [← hW1]; simp
  have hM : ApAt w fn (.func (.func 63) #[] #[.pointer (some ⟨Bn, 0, none⟩)]) w.heap.size (W0.heap.size + 1) W0.heap.size [] W1 :=
    ⟨⟨_, (hold w.heap.size (by omega)).trans hv0, ⟨rfl, .inl ⟨rfl, rfl⟩⟩⟩,
     by rw [← hW1]; have := World.alloc_heap_new (W0.alloc (.deferred (some []))) (.loop (apRec fn (.func (.func 63) #[] #[.pointer (some ⟨Bn, 0, none⟩)]) w.heap.size W0.heap.size .ready none)); rwa [World.size_alloc] at this,
     by rw [← hW1]; exact (Below.heap_alloc _ _ _ (by simp)).trans (World.alloc_heap_new W0 _), hb1⟩
  refine ⟨W0.heap.size + 1, [{ target := .collected W0.heap.size, args := #[] }], W1, { target := .fn (.func 63) #[.pointer (some ⟨Bn, 0, none⟩)], args := #[.func (.yield (W0.heap.size + 1)) #[] #[]] }, W1, 63,
    #[.func (.yield (W0.heap.size + 1)) #[] #[]] ++ #[.pointer (some ⟨Bn, 0, none⟩)], W1, ?_, ?_, ?_, ?_, fun _ => h1, ?_⟩
  · rw [← hW1]; exact run_enterLoop_outer _ _ _ _ _
  · simp [resolve, go_sem]
  · intro f' _; trivial
  · simp [invoke, go_sem]
  · have hBn1 : W1.cell? ⟨Bn, 0, none⟩ = some (.slice A m c) := (hb1.cell (p := ⟨Bn, 0, none⟩) hBl).trans hBn
    refine (secValues1_in (n - 1) (by omega) (W0.heap.size + 1) Bn w.heap.size w A m c L hr hm (ApAt w fn (.func (.func 63) #[] #[.pointer (some ⟨Bn, 0, none⟩)]) w.heap.size (W0.heap.size + 1) W0.heap.size) (fun _ _ h => h.below) (fun _ _ _ _ h => h.alloc2)
      (fun pre x W hJ hl => apYield (n - 1 - 1) w fn _ w.heap.size (W0.heap.size + 1) W0.heap.size (by omega) (by omega) (by omega) (Nat.le_refl _) (by omega) m (by simp only [maxLen]; omega) (by omega) pre x W hJ hl) W1 hBn1 hM).mono ?_
    rintro e W2 ⟨⟨v0, rfl⟩, h2⟩
    obtain ⟨v, hv, hrow⟩ := h2.box
    have hend := run_endLoop (P := Tryz.prog) h2.L (by simp [apRec])
    obtain ⟨W3, hW3⟩ : ∃ W3, W2.putObj (W0.heap.size + 1) (.loop { apRec fn (.func (.func 63) #[] #[.pointer (some ⟨Bn, 0, none⟩)]) w.heap.size W0.heap.size .ready none with state := .exhausted }) = W3 := ⟨_, rfl⟩
    rw [hW3] at hend
    have hg3 : W2.grownBy W3 (some (W0.heap.size + 1)) := by rw [← hW3]; exact grownBy_putObj _ _ _
    have hv3 : W3.heap[w.heap.size]? = some (.cells #[v] 27 (0, 0)) := by rw [← hW3]; exact (World.putObj_heap_other (by omega)).trans hv
    have hK3 : W3.heap[W0.heap.size]? = some (.deferred (some [])) := by rw [← hW3]; exact (World.putObj_heap_other (by omega)).trans h2.K
    have hrow3 := hrow.kept hg3 (ownsRow_ne hrow h2.L (fun cur e => by cases e))
    have hb3 : Below w.heap.size w W3 := h2.below.grown hg3 h2.below.size (fun k e => by cases e; omega)
    obtain ⟨hc3, hf3⟩ := cell_of_box hv3
    clear hW3
    refine ⟨none, W3, hend, ?_⟩
    gi_wp2
    rw [← hs0]
    refine ⟨by simp, .inl ⟨_, _, rfl, run_takeDeferred hK3, ?_⟩⟩
    exact ⟨_, results_tmp rfl _ _ _, v, rfl, hrow3.kept (grownBy_putObj _ _ _) (ownsRow_ne hrow3 hK3 (fun cur e => by cases e)), hb3.grown (grownBy_putObj _ _ _) hb3.size (fun k e => by cases e; omega)⟩

set_option maxHeartbeats 1000000 in
/-- slices.Collect. -/
theorem collect_any (Bn : Nat) (A : Option Addr) (m c : Nat) (L : List (Nat × Nat)) (w : World) (hr : RdS w w.heap.size A m c L) (hm : m ≤ 1099511627776) (hBn : w.cell? ⟨Bn, 0, none⟩ = some (.slice A m c)) (hBl : Bn < w.heap.size) :
    Calls Tryz.prog 61 #[.func (.func 63) #[] #[.pointer (some ⟨Bn, 0, none⟩)]] w fun e w' => ∃ v : Value, e = .returned v ∧ w'.ownsRow w.heap.size 59 2 v L.length (L.flatMap secC) ∧ Below w.heap.size w w' := by
  have hcon := (callsIn_wide (n := 3)).1 (appendSeq_in 3 (by omega) Bn A m c L w hr hm hBn hBl)
  go_enter Tryz.func61, Tryz.ntmps61
  go_wp2_with fail
  refine hcon.mono ?_
  rintro e w1 ⟨v, rfl, hrow, hb⟩
  go_wp2
  go_ret
  exact ⟨v, rfl, hrow, hb⟩
end Go.Proofs.YtmpladnglfiejaaGreatDoor
end

section
/- Region 2 of the rows' closure: what its slots hold. -/
namespace Go.Proofs.YtmpladnglfiejaaGreatDoor
open Go.RowKit
set_option maxRecDepth 100000
set_option linter.unusedVariables false
set_option linter.unusedSimpArgs false
theorem beq_dec (a b : Nat) : (a == b) = decide (a = b) := by cases h : (a == b) <;> simp_all
theorem pick_if (b c : Bool) : (if b then (if b then Value.bool c else undef) else Value.bool false) = Value.bool (b && c) := by cases b <;> rfl
/-- The reader's flag stands. -/
def Fl (g : Nat) (w : World) : Prop := w.cell? ⟨g, 1, none⟩ = some (.bool true)
theorem Stp.fl {g : Nat} {s : Value} {f : Bool} {w0 w : World} (h : Stp g s f w0 w) : Fl g w ↔ f = true := by
  have h1 : w.cell? ⟨g, 1, none⟩ = some (.bool f) := (h.blk.facts).1 1
  unfold Fl
  rw [h1]
  simp
def RowV (g Pn Bn m c a N N4 N6 u : Nat) (A : Option Addr) (b1 b2 b3 b4 : Bool) : Nat → Value
  | 0 => .pointer (some ⟨g, 0, none⟩)
  | 1 => .int .i64 (N : Int)
  | 2 => .bool b1
  | 3 => .bool b1
  | 4 => if b1 then .pointer (some ⟨g, 0, none⟩) else undef
  | 5 => if b1 then .int .i64 (a : Int) else undef
  | 6 => if b1 then .int .i64 ((a : Int) + 4) else undef
  | 7 => if b1 then .int .i64 (N4 : Int) else undef
  | 8 => if b1 then .bool b2 else undef
  | 9 => .bool (b1 && b2)
  | 10 => .bool (b1 && b2)
  | 11 => if b1 && b2 then .pointer (some ⟨g, 0, none⟩) else undef
  | 12 => if b1 && b2 then .int .i64 (a : Int) else undef
  | 13 => if b1 && b2 then .int .i64 ((a : Int) + 6) else undef
  | 14 => if b1 && b2 then .int .i64 (N6 : Int) else undef
  | 15 => if b1 && b2 then .bool b3 else undef
  | 16 => .bool (b1 && b2 && b3)
  | 17 => .bool (b1 && b2 && b3)
  | 18 => if b1 && b2 && b3 then .int .i64 (N : Int) else undef
  | 19 => if b1 && b2 && b3 then .int .i64 (u : Int) else undef
  | 20 => if b1 && b2 && b3 then .pointer (some ⟨g, 0, none⟩) else undef
  | 21 => if b1 && b2 && b3 then .pointer (some ⟨g, 0, none⟩) else undef
  | 22 => if b1 && b2 && b3 then .pointer (some ⟨g, 0, none⟩) else undef
  | 23 => if b1 && b2 && b3 then .slice A m c else undef
  | 24 => if b1 && b2 && b3 then .int .i64 (m : Int) else undef
  | 25 => if b1 && b2 && b3 then .int .i64 (a : Int) else undef
  | 26 => if b1 && b2 && b3 then .int .i64 ((m : Int) - a) else undef
  | 27 => if b1 && b2 && b3 then .bool b4 else undef
  | 28 => .bool (b1 && b2 && b3 && b4)
  | 29 => .tuple #[]
  | _ => undef
def RowM (g : Nat) (b1 b2 b3 b4 f4 f6 : Bool) : Nat → World → Prop
  | 7, w => b1 = true → Fl g w → f4 = true
  | 14, w => (b1 && b2) = true → Fl g w → f6 = true
  | 29, w => Fl g w → (b1 && b2 && b3 && b4) = true
  | _, _ => True
theorem RowM.mono {g : Nat} {b1 b2 b3 b4 f4 f6 : Bool} {w w' : World} (h : Fl g w' → Fl g w) : ∀ i, RowM g b1 b2 b3 b4 f4 f6 i w → RowM g b1 b2 b3 b4 f4 f6 i w' := by
  intro i hi
  unfold RowM at hi ⊢
  split
  · exact fun hb hw => hi hb (h hw)
  · exact fun hb hw => hi hb (h hw)
  · exact fun hw => hi (h hw)
  · trivial
/-- The reader's block now: its flag f is f0 cut down by some of the tests. -/
def RowG (g : Nat) (s : Value) (f0 row : Bool) (w0 w : World) : Prop := ∃ f, Stp g s f w0 w ∧ (f = true → f0 = true) ∧ (row = true → f = true)
def RowR (g : Nat) (s : Value) (f0 row : Bool) (w0 w w' : World) : Prop := (Fl g w' → Fl g w) ∧ (RowG g s f0 row w0 w → RowG g s f0 row w0 w')
theorem RowR.refl (g : Nat) (s : Value) (f0 row : Bool) (w0 w : World) : RowR g s f0 row w0 w w := ⟨id, id⟩
/-- A step that cuts the flag down by f. -/
theorem RowR.cut {g : Nat} {s : Value} {f0 row f ok : Bool} {w0 w w' : World} (h : Stp g s f w0 w) (hf : f = true → f0 = true) (hr : row = true → f = true) (h' : Stp g s (f && ok) w0 w') (hok : row = true → ok = true) : RowR g s f0 row w0 w w' ∧ (Fl g w' → ok = true) := by
  refine ⟨⟨fun hw => ?_, fun _ => ⟨_, h', fun e => ?_, fun e => ?_⟩⟩, fun hw => ?_⟩
  · rw [h'.fl, Bool.and_eq_true] at hw
    exact h.fl.2 hw.1
  · rw [Bool.and_eq_true] at e
    exact hf e.1
  · rw [hr e, hok e]; rfl
  · rw [h'.fl, Bool.and_eq_true] at hw
    exact hw.2
/-- At the end the flag is what the row tells. -/
theorem RowG.done {g : Nat} {s : Value} {f0 b1 b2 b3 b4 f4 f6 : Bool} {w0 w : World} (h : RowG g s f0 (f0 && (b1 && (f4 && b2) && (f6 && b3) && b4)) w0 w) (h7 : RowM g b1 b2 b3 b4 f4 f6 7 w) (h14 : RowM g b1 b2 b3 b4 f4 f6 14 w) (h29 : RowM g b1 b2 b3 b4 f4 f6 29 w) :
    Stp g s (f0 && (b1 && (f4 && b2) && (f6 && b3) && b4)) w0 w := by
  obtain ⟨f, hs, hf0, hrow⟩ := h
  have key : f = (f0 && (b1 && (f4 && b2) && (f6 && b3) && b4)) := by
    cases hf : f with
    | false =>
      cases hr : (f0 && (b1 && (f4 && b2) && (f6 && b3) && b4)) with
      | false => rfl
      | true => rw [hrow hr] at hf; cases hf
    | true =>
      have hw := hs.fl.2 hf
      have e29 := h29 hw
      simp only [Bool.and_eq_true] at e29
      obtain ⟨⟨⟨e1, e2⟩, e3⟩, e4⟩ := e29
      have e7 := h7 e1 hw
      have e14 := h14 (by rw [e1, e2]; rfl) hw
      rw [hf0 hf, e1, e2, e3, e4, e7, e14]; rfl
  rwa [← key]
theorem arr_eta (a : Act) (n : Nat) (h : a.tmps.size = n) (hd : a.defers = []) : a = { tmps := ((List.range n).map fun i => a.eval (.tmp i)).toArray, defers := [] } := by
  obtain ⟨t, d⟩ := a
  dsimp only at h hd
  subst hd h
  congr 1
  apply Array.ext
  · simp
  · intro i h1 h2
    simp [Act.eval, Array.getD, h1]
theorem load_ptrR {w : World} {ad : Addr} {v : Value} (h : w.cell? ad = some v) : (loadVar 68 ad).run Tryz.prog w = .ok v w := by simp [go_sem, h]
theorem load_intR {w : World} {ad : Addr} {v : Value} (h : w.cell? ad = some v) : (loadVar 3 ad).run Tryz.prog w = .ok v w := by simp [go_sem, h]
theorem load_bytesR {w : World} {ad : Addr} {v : Value} (h : w.cell? ad = some v) : (loadVar 22 ad).run Tryz.prog w = .ok v w := by simp [go_sem, h]
theorem F_len {Q : Exit → Act → World → Prop} {o : Oper} {a : Act} {w : World} {Mi : World → Prop} {R : World → World → Prop} {x : Operand} {A : Option Addr} {n c : Nat} (ho : o.op = .call { callee := .builtin .len, args := #[x], argTypes := #[22] }) (hx : a.eval x = .slice A n c) (hM : Mi w) (hR : R w w) : o.wp Tryz.prog a w (RK o a w (.int .i64 (n : Int)) Mi R) Q := by
  have hm : (#[x] : Array Operand).map a.eval = #[.slice A n c] := by rw [← hx]; simp
  have hl : (Builtin.len_ #[22] o.type #[.slice A n c]).run Tryz.prog w = .ok (.int .i64 (n : Int)) w := rfl
  refine F_val ?_ hM hR
  simp only [execOp, ho, resolve, hm]
  simp [go_sem, hl]
section
variable {P : Program} {o : Oper} {a : Act} {w : World} {Q : Exit → Act → World → Prop} {J : Value → World → Prop} {R : World → World → Prop} {v : Value} {Mi : World → Prop}
abbrev JK (o : Oper) (a : Act) (w : World) (J : Value → World → Prop) (R : World → World → Prop) : Act → World → Prop := fun a' w' => ∃ v, a' = a.put o.dst v ∧ (o.dst = none → v = undef) ∧ J v w' ∧ R w w'
theorem J_of (hd : o.dst ≠ none) (hJ : ∀ w', J v w') (h : o.wp P a w (RK o a w v (fun _ => True) R) Q) : o.wp P a w (JK o a w J R) Q :=
  Oper.wp_mono (fun a' w' ⟨e, m, r⟩ => ⟨v, e, fun h => absurd h hd, hJ w', r⟩) h
theorem J_call {f : FuncId} {fn : Func} {c : Code} {xs : Array Operand} {ts : Array TypeId} {args : Array Value} {S : Ending → World → Prop} (hd : o.dst ≠ none) (ho : o.op = .call { callee := .value (.func f), args := xs, argTypes := ts })
    (hf : P.funcs[f]? = some fn) (hb : fn.body = some c) (hnm : fn.name ≠ "runtime.NumGoroutine") (ha : xs.map a.eval = args) (hc : Calls P f args w S) (h : ∀ e w'', S e w'' → ∃ v, e = .returned v ∧ J v w'' ∧ R w w'') : o.wp P a w (JK o a w J R) Q := by
  have hrun : (execOp a.eval o).run P w = .ok (.enter f args) w := by
    simp [execOp, ho, resolve, invoke, Deferred.ofValue, callFunc, hf, hb, hnm, ha, Act.eval]
  unfold Oper.wp
  rw [hrun, Oper.upon_enter]
  refine hc.mono fun e w'' hR => ?_
  obtain ⟨v, rfl, hJ, hR⟩ := h e w'' hR
  exact ⟨v, rfl, fun h => absurd h hd, hJ, hR⟩
end
def YldJ (l g m c a N n1 c1 B : Nat) (A A1 : Option Addr) (zs : List UInt8) : Nat → Value → World → Prop
  | 0, v, _ => v = .func (.yield l) #[] #[]
  | 1, v, _ => v = .pointer (some ⟨g, 0, none⟩)
  | 2, v, _ => v = .pointer (some ⟨g, 0, none⟩)
  | 3, v, _ => v = .pointer (some ⟨g, 0, none⟩)
  | 4, v, _ => v = .slice A m c
  | 5, v, _ => v = .int .i64 (a : Int)
  | 6, v, _ => v = .int .i64 ((a : Int) + 8)
  | 7, v, _ => v = .int .i64 (a : Int)
  | 8, v, _ => v = .int .i64 (N : Int)
  | 9, v, _ => v = .int .i64 ((a : Int) + N)
  | 10, v, _ => v = .slice A1 n1 c1
  | 11, v, w => OwnB w B w.heap.size v zs
  | _, _, _ => True
theorem YldJ.mono {l g m c a N n1 c1 B : Nat} {A A1 : Option Addr} {zs : List UInt8} : ∀ (i : Nat) (v : Value) (w w' : World), Below w.heap.size w w' → YldJ l g m c a N n1 c1 B A A1 zs i v w → YldJ l g m c a N n1 c1 B A A1 zs i v w' := by
  intro i v w w' hb h
  unfold YldJ at h ⊢
  split <;> first | trivial | exact h | exact (OwnB.below h hb (Nat.le_refl _)).mono (Nat.le_refl _) hb.size
theorem K_val {P : Program} {o : Oper} {a : Act} {w : World} {K : Act → World → Prop} {Q : Exit → Act → World → Prop} {v : Value} (hrun : (execOp a.eval o).run P w = .ok (.value v) w) (h : K (a.put o.dst v) w) : o.wp P a w K Q := by
  unfold Oper.wp
  rw [hrun, Oper.upon_value]
  exact h
theorem K_not {P : Program} {o : Oper} {a : Act} {w : World} {K : Act → World → Prop} {Q : Exit → Act → World → Prop} {t : TypeId} {x : Operand} {b : Bool} (ho : o.op = .unOp .not t x) (hx : a.eval x = .bool b) (h : K (a.put o.dst (.bool !b)) w) : o.wp P a w K Q :=
  K_val (by simp only [execOp, ho, hx]; simp [go_sem]) h
theorem blk_same {w w' : World} {g : Nat} {t : TypeId} {cs : List Value} (h : Blk w g t cs.toArray) (e : w'.heap[g]? = w.heap[g]?) : Blk w' g t cs.toArray := by
  unfold Blk at h ⊢
  rw [e]; exact h
end Go.Proofs.YtmpladnglfiejaaGreatDoor
end

section
/- A whole shape in a variable: loaded, stored; a shape brought to what may be made. -/
namespace Go.Proofs.YtmpladnglfiejaaGreatDoor
open Go.RowKit
set_option maxRecDepth 100000
set_option linter.unusedVariables false
set_option linter.unusedSimpArgs false
namespace Pe
/-- A shape, brought to what may be made. -/
def brought (s : Shape) : Shape :=
  { plus := s.plus, stub := s.stub.take 200, fill := s.fill.take 200, bodies := if s.bodies = [] then [[]] else (s.bodies.take 10).map (·.take 300), order := s.order.take 20, behind := s.behind.take 500, sigs := (s.sigs.take 8).map fun x => 48 :: x.take 300 }
end Pe
theorem run_uptoI {w : World} {B n c : Nat} {A : Option Addr} {l : List Int} (h : RdI w B A n c l) (hi : Nat) (r : Int) (hr : r = hi) (h2 : hi ≤ n) :
    ∃ A1 c1, RdI w B A1 hi c1 (l.take hi) ∧ (∀ W, (Instr.sliceAt 43 (.slice A n c) none (some (.int .i64 r)) none).run Tryz.prog W = .ok (.slice A1 hi c1) W) ∧
      ∀ W, (Instr.slice 43 (.slice A n c) none (some (.int .i64 r)) none).run Tryz.prog W = .ok (.slice A1 hi c1) W := by
  have hc := h.cap
  have hl := h.len
  subst hr
  by_cases h0 : c = 0
  · subst h0
    obtain rfl : hi = 0 := by omega
    refine ⟨A, 0, ⟨by simp, Nat.le_refl _, by omega, fun e => absurd rfl e, by simp, fun e => absurd rfl (Nat.ne_of_gt e)⟩, fun W => ?_, fun W => ?_⟩ <;> simp [go_sem, Tryz.underlying43]
  · obtain ⟨b, o, rfl, hb⟩ := h.spot h0
    refine ⟨some ⟨b, o, none⟩, c, ⟨by simp; omega, by omega, h.capm, h.spot, by simp; omega, fun hh => ?_⟩, fun W => ?_, fun W => ?_⟩
    · obtain ⟨ad, e, h3, h4⟩ := h.rds.2 (by omega)
      refine ⟨ad, e, h3, fun j u hu => h4 j u ?_⟩
      rw [List.map_take, List.getElem?_take] at hu
      split at hu
      · exact hu
      · cases hu
    · simp [go_sem, Tryz.underlying43, show (hi : Int) ≤ c by omega, h0, Addr.add]
    · simp [go_sem, Tryz.underlying43, show (hi : Int) ≤ c by omega, h0, Addr.add]
def ShV.zero : ShV := ⟨false, .slice none 0 0, .slice none 0 0, .slice none 0 0, .slice none 0 0, .slice none 0 0, .slice none 0 0⟩
def ShV.One (c : ShV) : Prop := ∀ v ∈ c.cells.toList, v.oneCell' = true
theorem load_boolS {w : World} {ad : Addr} {v : Value} (h : w.cell? ad = some v) : (loadVar 4 ad).run Tryz.prog w = .ok v w := by simp [go_sem, h]
theorem load_intsS {w : World} {ad : Addr} {v : Value} (h : w.cell? ad = some v) : (loadVar 43 ad).run Tryz.prog w = .ok v w := by simp [go_sem, h]
theorem put_sh {w : World} {g : Nat} {C : ShV} (h : Bs w g C) (D : ShV) (hD : D.One) :
    (storeCells ⟨g, 0, none⟩ D.cells.toList 0).run Tryz.prog w = .ok () (w.setRow g D.cells) := by
  have := run_storeCells_at (P := Tryz.prog) g 0 45 D.cells.toList 0 C.cells w h (by simp [ShV.cells]) hD
  simpa [ShV.cells] using this
theorem sh_info : (Tryz.prog.info? 45).map (·.size) = some 7 := rfl
theorem run_put_sh {w : World} {g : Nat} {C : ShV} (h : Bs w g C) (D : ShV) (hD : D.One) :
    (storeVar 45 ⟨g, 0, none⟩ (.agg D.cells)).run Tryz.prog w = .ok () (w.setRow g D.cells) := by
  have h1 := put_sh h D hD
  cases hq : Tryz.prog.info? 45 with
  | none => have := sh_info; rw [hq] at this; cases this
  | some i =>
    have hs : i.size = 7 := by have := sh_info; rw [hq] at this; injection this
    simpa [storeVar, sizeOf, typeInfo, hq, Value.cells, hs, ShV.cells] using h1
theorem setRow_sh {w : World} {g : Nat} {C D : ShV} (h : Bs w g C) : Bs (w.setRow g D.cells) g D ∧ w.grownBy (w.setRow g D.cells) (some g) := by
  refine ⟨setRow_heap w g C.cells D.cells _ _ h, rfl, rfl, rfl, by simp [World.setRow], fun k hk hne => ?_⟩
  unfold World.setRow
  simp only [Array.getElem?_modify]
  rw [if_neg (fun e => hne (by rw [e]))]
theorem wp_store_sh {o : Oper} {a : Act} {w : World} {K : Act → World → Prop} {Q : Exit → Act → World → Prop} (x y : Operand) (ho : o.op = .store 45 x y)
    (g : Nat) (C D : ShV) (hx : a.eval x = .pointer (some ⟨g, 0, none⟩)) (hy : a.eval y = .agg D.cells) (hB : Bs w g C) (hD : D.One)
    (h : ∀ w', Bs w' g D → w.grownBy w' (some g) → K (a.put o.dst undef) w') : o.wp Tryz.prog a w K Q := by
  unfold Oper.wp execOp
  simp only [ho, hx, hy, Instr.storeAt, Instr.sureAddr, Sem.run_bind, Sem.run_pure, Result.andThen_ok, run_put_sh hB D hD]
  exact h _ (setRow_sh hB).1 (setRow_sh hB).2
theorem wpList_store_sh {ops : Array Oper} {rest : List Oper} {op : Oper} {a : Act} {w : World} {Q : Exit → Act → World → Prop} (hgd : op.guard = none) (x y : Operand) (ho : op.op = .store 45 x y)
    (g : Nat) (C D : ShV) (hx : a.eval x = .pointer (some ⟨g, 0, none⟩)) (hy : a.eval y = .agg D.cells) (hB : Bs w g C) (hD : D.One)
    (h : ∀ w', Bs w' g D → w.grownBy w' (some g) → wpList Tryz.prog ops Q rest (a.put op.dst undef) w') : wpList Tryz.prog ops Q (op :: rest) a w :=
  wpList_plain hgd fun K hK => wp_store_sh x y ho g C D hx hy hB hD fun w' h1 h2 => hK _ _ (h w' h1 h2)
/-- Fits where the operation at hand stores a whole shape. -/
theorem at_store_sh {P : Program} {ops : Array Oper} {rest : List Oper} {d : Option Tmp} {ty : TypeId} {pos : String} {af : Array Edge} {g : Option (Nat × Bool)} {x y : Operand} {a : Act} {w : World} {Q : Exit → Act → World → Prop}
    (h : wpList P ops Q ({ dst := d, op := .store 45 x y, type := ty, pos := pos, after := af, guard := g } :: rest) a w) : wpList P ops Q ({ dst := d, op := .store 45 x y, type := ty, pos := pos, after := af, guard := g } :: rest) a w := h
theorem K_alloc_sh {o : Oper} {a : Act} {w : World} {K : Act → World → Prop} {Q : Exit → Act → World → Prop} (ho : o.op = .alloc 45) (h : K (a.put o.dst (.pointer (some ⟨w.heap.size, 0, none⟩))) (w.alloc (.cells ShV.zero.cells 45))) : o.wp Tryz.prog a w K Q := by
  have hr : (Instr.alloc 45 true (.tuple #[])).run Tryz.prog w = .ok (.pointer (some ⟨w.heap.size, 0, none⟩)) (w.alloc (.cells ShV.zero.cells 45)) := by
    simp [go_sem]
    try rfl
  unfold Oper.wp
  rw [show (execOp a.eval o).run Tryz.prog w = .ok (.value (.pointer (some ⟨w.heap.size, 0, none⟩))) (w.alloc (.cells ShV.zero.cells 45)) from by simp only [execOp, ho]; simp [hr], Oper.upon_value]
  exact h
end Go.Proofs.YtmpladnglfiejaaGreatDoor
end
