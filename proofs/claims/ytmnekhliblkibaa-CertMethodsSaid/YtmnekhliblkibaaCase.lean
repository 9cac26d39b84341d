/- A case in memory. -/
import Derived.Test.YtmnekhliblkibaaGQ
import Derived.Test.YtmnekhliblkibaaGS
import Derived.Test.YtmnekhliblkibaaOpenCase
namespace Go.Proofs.Ytmnekhliblkibaa
open Go.RowKit
set_option maxRecDepth 1000000
set_option linter.unusedVariables false
set_option linter.unusedSimpArgs false

def Kase.row (k : Kase) (v0 v1 v2 : Value) : Array Value := #[v0, v1, v2, .string ⟨k.iss.toArray⟩, .string ⟨k.sub.toArray⟩,
  .int .u16 (k.from_.y : Int), .int .u8 (k.from_.mo : Int), .int .u8 (k.from_.d : Int), .int .u8 (k.from_.h : Int), .int .u8 (k.from_.mi : Int), .int .u8 (k.from_.s : Int),
  .int .u16 (k.to.y : Int), .int .u8 (k.to.mo : Int), .int .u8 (k.to.d : Int), .int .u8 (k.to.h : Int), .int .u8 (k.to.mi : Int), .int .u8 (k.to.s : Int),
  .int .u64 (k.e : Int), .bool k.ca, .bool k.code, .int .u8 (k.path : Int), .int .u8 (k.usage : Int)]
theorem load_case {w : World} {g : Nat} {k : Kase} {v0 v1 v2 : Value} (h : Blk w g 42 (k.row v0 v1 v2)) : (loadVar 42 ⟨g, 0, none⟩).run Try.prog w = .ok (k.val v0 v1 v2) w := by
  have hk := h.cell
  have h0 := run_loadVar_mid (P := Try.prog) w g 0 42 (k.row v0 v1 v2).toList _ (fun j v hv => by rw [Nat.zero_add, hk]; simpa using hv) Try.underlying42 rfl rfl
  exact h0
/-- Fits where the operation at hand loads a whole case. -/
theorem at_load_case {P : Program} {ops : Array Oper} {rest : List Oper} {d : Option Tmp} {ty : TypeId} {pos : String} {af : Array Edge} {g : Option (Nat × Bool)} {x : Operand} {a : Act} {w : World} {Q : Exit → Act → World → Prop}
    (h : wpList P ops Q ({ dst := d, op := .load 42 x, type := ty, pos := pos, after := af, guard := g } :: rest) a w) : wpList P ops Q ({ dst := d, op := .load 42 x, type := ty, pos := pos, after := af, guard := g } :: rest) a w := h
theorem wpList_load_case {ops : Array Oper} {rest : List Oper} {op : Oper} {a : Act} {w : World} {Q : Exit → Act → World → Prop} (hgd : op.guard = none) (x : Operand) (ho : op.op = .load 42 x)
    (g : Nat) (k : Kase) (v0 v1 v2 : Value) (hx : a.eval x = .pointer (some ⟨g, 0, none⟩)) (hB : Blk w g 42 (k.row v0 v1 v2)) (h : wpList Try.prog ops Q rest (a.put op.dst (k.val v0 v1 v2)) w) : wpList Try.prog ops Q (op :: rest) a w := by
  refine wpList_plain hgd fun K hK => ?_
  unfold Oper.wp execOp
  simp only [ho, hx, Instr.loadAt, Instr.sureAddr, Sem.run_bind, Sem.run_pure, Result.andThen_ok, load_case hB]
  exact hK _ _ h
/-- A case without extensions. -/
def Kase.plain (k : Kase) : Kase := {k with ca := false, usage := 0, code := true}
theorem plain_row (k : Kase) (v0 v1 v2 : Value) : (((k.row v0 v1 v2).setIfInBounds 18 (.bool false)).setIfInBounds 21 (.int .u8 0)).setIfInBounds 19 (.bool true) = k.plain.row v0 v1 v2 := rfl
theorem plain_exts (k : Kase) : E.exts k.plain.fl = [] := by
  unfold E.exts Kase.plain Kase.fl
  rfl
/-- The elements of a case's signed part, without extensions. -/
def Kase.els (k : Kase) : List El := E.seven k.serial (E.name (k.iss.take 200)) (E.name (k.sub.take 200)) k.start k.stop k.nn (k.e % 8589934592)
theorem plain_T (k : Kase) : k.plain.T = El.mk 48 (raws k.els) := by
  unfold Kase.T E.tbs
  rw [plain_exts]
  show El.mk 48 (raws (E.seven _ _ _ _ _ _ _ ++ [])) = _
  rw [List.append_nil]
  rfl
theorem plain_tbs (k : Kase) : k.plain.tbs = (El.mk 48 (raws k.els)).2.2 := by rw [← kase_T, plain_T]
theorem els_wf (k : Kase) (hp : k.path < 256) : (∀ y ∈ k.els, El.wf y) ∧ (raws k.els).length ≤ 4000 := by
  have h := kase_signed k.plain hp (by show (0 : Nat) < 256; omega)
  rw [plain_T] at h
  have h4 := kase_tlen k.plain
  rw [plain_tbs] at h4
  have h5 := write_ge 48 (raws k.els)
  simp only [El.mk] at h4
  refine ⟨?_, by omega⟩
  have hf := kase_fl k.plain hp (by show (0 : Nat) < 256; omega)
  have hnl : ∀ s : List UInt8, (E.name (s.take 200)).2.2.length < 4294967296 := fun s => by
    rw [name_raw]
    have := name_len (s.take 200) (by rw [List.length_take]; omega)
    omega
  intro y hy
  have hy2 := hy
  simp only [Kase.els, E.seven, List.mem_cons, List.not_mem_nil, or_false] at hy2
  rcases hy2 with rfl | rfl | rfl | rfl | rfl | rfl | rfl
  · exact El.mk_wf (by decide) (by decide)
  · exact mk_small (by decide) hy (by omega)
  · exact El.mk_wf (by decide) (by decide)
  · exact (name_wf _ (hnl k.iss)).1
  · exact mk_small (by decide) hy (by omega)
  · exact (name_wf _ (hnl k.sub)).1
  · exact mk_small (by decide) hy (by omega)
theorem els_len (k : Kase) : k.els.length = 7 := rfl
end Go.Proofs.Ytmnekhliblkibaa
