/- A case in memory: loaded out of another value, stored into a variable. -/
import Derived.Test.YtmnekhliblkibaaLawOps2
namespace Go.Proofs.Ytmnekhliblkibaa
open Go.RowKit
set_option maxRecDepth 100000
set_option linter.unusedVariables false
set_option linter.unusedSimpArgs false

theorem wpList_load_case2 {ops : Array Oper} {rest : List Oper} {op : Oper} {a : Act} {w : World} {Q : Exit → Act → World → Prop} (hgd : op.guard = none) (x : Operand) (ho : op.op = .load 42 x)
    (g : Nat) (k : Kase) (v0 v1 v2 : Value) (hx : a.eval x = .pointer (some ⟨g, 0, none⟩)) (hB : ∀ j v, (k.row v0 v1 v2).toList[j]? = some v → w.cell? ⟨g, 0 + j, none⟩ = some v) (h : wpList Try.prog ops Q rest (a.put op.dst (k.val v0 v1 v2)) w) : wpList Try.prog ops Q (op :: rest) a w := by
  have hl : (loadVar 42 ⟨g, 0, none⟩).run Try.prog w = .ok (k.val v0 v1 v2) w :=
    run_loadVar_mid (P := Try.prog) w g 0 42 (k.row v0 v1 v2).toList _ hB Try.underlying42 rfl rfl
  refine wpList_plain hgd fun K hK => ?_
  unfold Oper.wp execOp
  simp only [ho, hx, Instr.loadAt, Instr.sureAddr, Sem.run_bind, Sem.run_pure, Result.andThen_ok, hl]
  exact hK _ _ h
def Kase.zero : Kase := ⟨[], [], [], [], [], ⟨0, 0, 0, 0, 0, 0⟩, ⟨0, 0, 0, 0, 0, 0⟩, 0, false, false, 0, 0⟩
def zrow : Array Value := Kase.zero.row (.slice none 0 0) (.slice none 0 0) (.slice none 0 0)
theorem put_case {w : World} {g : Nat} {C : Array Value} (hC : C.size = 22) (h : Blk w g 42 C) (D : Array Value) (hD : ∀ v ∈ D.toList, v.oneCell' = true) (hs : D.size = 22) :
    (storeCells ⟨g, 0, none⟩ D.toList 0).run Try.prog w = .ok () (w.setRow g D) := by
  have := run_storeCells_at (P := Try.prog) g 0 42 D.toList 0 C w h (by simp [hC, hs]) hD
  have hd : C.toList.drop 22 = [] := List.drop_eq_nil_of_le (by simp [hC])
  simpa [hC, hs, hd] using this
theorem case_info : (Try.prog.info? 42).map (·.size) = some 22 := rfl
theorem run_put_case {w : World} {g : Nat} {C : Array Value} (hC : C.size = 22) (h : Blk w g 42 C) (D : Array Value) (hD : ∀ v ∈ D.toList, v.oneCell' = true) (hs : D.size = 22) :
    (storeVar 42 ⟨g, 0, none⟩ (.agg D)).run Try.prog w = .ok () (w.setRow g D) := by
  have h1 := put_case hC h D hD hs
  cases hq : Try.prog.info? 42 with
  | none => have := case_info; rw [hq] at this; cases this
  | some i =>
    have hz : i.size = 22 := by have := case_info; rw [hq] at this; injection this
    simpa [storeVar, sizeOf, typeInfo, hq, Value.cells, hz, hs] using h1
theorem row_one (k : Kase) (A0 A1 A2 : Option Addr) (n0 c0 n1 c1 n2 c2 : Nat) : ∀ v ∈ (k.row (.slice A0 n0 c0) (.slice A1 n1 c1) (.slice A2 n2 c2)).toList, v.oneCell' = true := by
  intro v hv
  simp only [Kase.row, List.mem_cons, List.not_mem_nil, or_false] at hv
  rcases hv with rfl | rfl | rfl | rfl | rfl | rfl | rfl | rfl | rfl | rfl | rfl | rfl | rfl | rfl | rfl | rfl | rfl | rfl | rfl | rfl | rfl | rfl <;> rfl
theorem at_store_case {P : Program} {ops : Array Oper} {rest : List Oper} {d : Option Tmp} {ty : TypeId} {pos : String} {af : Array Edge} {g : Option (Nat × Bool)} {x y : Operand} {a : Act} {w : World} {Q : Exit → Act → World → Prop}
    (h : wpList P ops Q ({ dst := d, op := .store 42 x y, type := ty, pos := pos, after := af, guard := g } :: rest) a w) : wpList P ops Q ({ dst := d, op := .store 42 x y, type := ty, pos := pos, after := af, guard := g } :: rest) a w := h
theorem wpList_store_case {ops : Array Oper} {rest : List Oper} {op : Oper} {a : Act} {w : World} {Q : Exit → Act → World → Prop} (hgd : op.guard = none) (x y : Operand) (ho : op.op = .store 42 x y)
    (g : Nat) (C : Array Value) (k : Kase) (A0 A1 A2 : Option Addr) (n0 c0 n1 c1 n2 c2 : Nat) (hx : a.eval x = .pointer (some ⟨g, 0, none⟩)) (hy : a.eval y = k.val (.slice A0 n0 c0) (.slice A1 n1 c1) (.slice A2 n2 c2)) (hC : C.size = 22) (hB : Blk w g 42 C)
    (h : ∀ w', Blk w' g 42 (k.row (.slice A0 n0 c0) (.slice A1 n1 c1) (.slice A2 n2 c2)) → w.grownBy w' (some g) → wpList Try.prog ops Q rest (a.put op.dst undef) w') : wpList Try.prog ops Q (op :: rest) a w := by
  have hy2 : a.eval y = .agg (k.row (.slice A0 n0 c0) (.slice A1 n1 c1) (.slice A2 n2 c2)) := hy
  refine wpList_plain hgd fun K hK => ?_
  unfold Oper.wp execOp
  simp only [ho, hx, hy2, Instr.storeAt, Instr.sureAddr, Sem.run_bind, Sem.run_pure, Result.andThen_ok, run_put_case hC hB _ (row_one k A0 A1 A2 n0 c0 n1 c1 n2 c2) rfl]
  refine hK _ _ (h _ (setRow_heap w g C _ _ _ hB) ?_)
  refine ⟨rfl, rfl, rfl, by simp [World.setRow], fun k hk hne => ?_⟩
  unfold World.setRow
  simp only [Array.getElem?_modify]
  rw [if_neg (fun e => hne (by rw [e]))]
end Go.Proofs.Ytmnekhliblkibaa
