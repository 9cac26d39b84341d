/- Arrays and structs in memory: whole rows loaded and stored, at any place of a block. -/
import Derived.Test.YtmpladnglfiejaaGreatDoorPA
import Derived.Deep.MidRow
import Derived.BigFrame
import Derived.WalkKit
namespace Go.Proofs.YtmpladnglfiejaaGreatDoor
open Go.RowKit
set_option maxRecDepth 100000
set_option linter.unusedVariables false
set_option linter.unusedSimpArgs false
theorem load_row {w : World} {g : Nat} {B : TypeId} {cs : Array Value} (T : TypeId) (o : Nat) (l : List Value) (d : TypeDesc) (hu : Tryz.prog.underlying T = some d) (hd : d.isRow = true) (hi : (Tryz.prog.info? T).map (·.size) = some l.length) (h : Blk w g B cs) (hl : ∀ j v, l[j]? = some v → cs[o + j]? = some v) :
    (loadVar T ⟨g, o, none⟩).run Tryz.prog w = .ok (.agg l.toArray) w :=
  run_loadVar_mid (P := Tryz.prog) w g o T l d (fun j v hv => by rw [h.cell]; exact hl j v hv) hu hd hi
theorem setRow_blk {w : World} {g : Nat} {B : TypeId} {cs ds : Array Value} (h : Blk w g B cs) : Blk (w.setRow g ds) g B ds ∧ w.grownBy (w.setRow g ds) (some g) := by
  refine ⟨setRow_heap w g cs ds _ _ h, rfl, rfl, rfl, by simp [World.setRow], fun k hk hne => ?_⟩
  unfold World.setRow
  simp only [Array.getElem?_modify]
  rw [if_neg (fun e => hne (by rw [e]))]
/-- A row of cells laid over others. -/
def layAt (cs : Array Value) (o : Nat) (l : List Value) : Array Value := (cs.toList.take o ++ l ++ cs.toList.drop (o + l.length)).toArray
theorem layAt_all {cs : Array Value} {l : List Value} (h : l.length = cs.size) : layAt cs 0 l = l.toArray := by
  unfold layAt
  rw [List.take_zero, List.nil_append, List.drop_eq_nil_of_le (by simp; omega), List.append_nil]
theorem store_row {w : World} {g : Nat} {B : TypeId} {cs : Array Value} (T : TypeId) (o : Nat) (l : List Value) (hi : (Tryz.prog.info? T).map (·.size) = some l.length) (h : Blk w g B cs) (hs : o + l.length ≤ cs.size) (h1 : ∀ v ∈ l, v.oneCell' = true) :
    (storeVar T ⟨g, o, none⟩ (.agg l.toArray)).run Tryz.prog w = .ok () (w.setRow g (layAt cs o l)) := by
  have h2 := run_storeCells_at (P := Tryz.prog) g o B l 0 cs w h (by simpa using hs) h1
  cases hq : Tryz.prog.info? T with
  | none => rw [hq] at hi; cases hi
  | some i =>
    have hz : i.size = l.length := by rw [hq] at hi; injection hi
    simpa [storeVar, sizeOf, typeInfo, hq, Value.cells, hz, layAt] using h2
theorem wp_load_row {o' : Oper} {a : Act} {w : World} {K : Act → World → Prop} {Q : Exit → Act → World → Prop} (T : TypeId) (x : Operand) (ho : o'.op = .load T x) (ad : Addr) (v : Value) (hx : a.eval x = .pointer (some ad)) (hl : (loadVar T ad).run Tryz.prog w = .ok v w)
    (h : K (a.put o'.dst v) w) : o'.wp Tryz.prog a w K Q := by
  unfold Oper.wp execOp
  simp only [ho, hx, Instr.loadAt, Instr.sureAddr, Sem.run_bind, Sem.run_pure, Result.andThen_ok, hl]
  exact h
theorem wp_store_row {o' : Oper} {a : Act} {w : World} {K : Act → World → Prop} {Q : Exit → Act → World → Prop} (T : TypeId) (x y : Operand) (ho : o'.op = .store T x y) (ad : Addr) (v : Value) (w' : World) (hx : a.eval x = .pointer (some ad)) (hy : a.eval y = v) (hl : (storeVar T ad v).run Tryz.prog w = .ok () w')
    (h : K (a.put o'.dst undef) w') : o'.wp Tryz.prog a w K Q := by
  unfold Oper.wp execOp
  simp only [ho, hx, hy, Instr.storeAt, Instr.sureAddr, Sem.run_bind, Sem.run_pure, Result.andThen_ok, hl]
  exact h
theorem wpList_load_row {ops : Array Oper} {rest : List Oper} {op : Oper} {a : Act} {w : World} {Q : Exit → Act → World → Prop} (hgd : op.guard = none) (T : TypeId) (x : Operand) (ho : op.op = .load T x) (ad : Addr) (v : Value) (hx : a.eval x = .pointer (some ad)) (hl : (loadVar T ad).run Tryz.prog w = .ok v w)
    (h : wpList Tryz.prog ops Q rest (a.put op.dst v) w) : wpList Tryz.prog ops Q (op :: rest) a w :=
  wpList_plain hgd fun K hK => wp_load_row T x ho ad v hx hl (hK _ _ h)
theorem wpList_store_row {ops : Array Oper} {rest : List Oper} {op : Oper} {a : Act} {w : World} {Q : Exit → Act → World → Prop} (hgd : op.guard = none) (T : TypeId) (x y : Operand) (ho : op.op = .store T x y) (ad : Addr) (v : Value) (w' : World) (hx : a.eval x = .pointer (some ad)) (hy : a.eval y = v) (hl : (storeVar T ad v).run Tryz.prog w = .ok () w')
    (h : wpList Tryz.prog ops Q rest (a.put op.dst undef) w') : wpList Tryz.prog ops Q (op :: rest) a w :=
  wpList_plain hgd fun K hK => wp_store_row T x y ho ad v w' hx hy hl (hK _ _ h)
/-- Fits where the operation at hand loads, or stores, a whole variable of a type. -/
theorem at_load_t (T : TypeId) {P : Program} {ops : Array Oper} {rest : List Oper} {d : Option Tmp} {ty : TypeId} {pos : String} {af : Array Edge} {g : Option (Nat × Bool)} {x : Operand} {a : Act} {w : World} {Q : Exit → Act → World → Prop}
    (h : wpList P ops Q ({ dst := d, op := .load T x, type := ty, pos := pos, after := af, guard := g } :: rest) a w) : wpList P ops Q ({ dst := d, op := .load T x, type := ty, pos := pos, after := af, guard := g } :: rest) a w := h
theorem at_store_t (T : TypeId) {P : Program} {ops : Array Oper} {rest : List Oper} {d : Option Tmp} {ty : TypeId} {pos : String} {af : Array Edge} {g : Option (Nat × Bool)} {x y : Operand} {a : Act} {w : World} {Q : Exit → Act → World → Prop}
    (h : wpList P ops Q ({ dst := d, op := .store T x y, type := ty, pos := pos, after := af, guard := g } :: rest) a w) : wpList P ops Q ({ dst := d, op := .store T x y, type := ty, pos := pos, after := af, guard := g } :: rest) a w := h
/-- A result that is a variable. -/
theorem results_row1 {fn : Func} {t : Tmp} {ty : TypeId} (h : fn.results = #[.cell t ty]) (tmps : Array Value) (P : Program) (w : World) (ad : Addr) (v : Value)
    (ha : tmps.getD t undef = .pointer (some ad)) (hl : (loadVar ty ad).run P w = .ok v w) : (results fn tmps).run P w = .ok v w := by
  simp only [Array.getD_eq_getD_getElem?] at ha
  simp [results, h, ha, hl, asAddr]
end Go.Proofs.YtmpladnglfiejaaGreatDoor
