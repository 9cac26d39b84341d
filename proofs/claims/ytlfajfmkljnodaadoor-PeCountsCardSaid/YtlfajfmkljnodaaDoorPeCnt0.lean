/- Loads of a law's region. -/
import Derived.Test.YtlfajfmkljnodaaDoorPF
import Derived.Test.YtlfajfmkljnodaaDoorPB
namespace Go.Proofs.YtlfajfmkljnodaaDoor
open Go.RowKit
set_option maxRecDepth 100000
set_option linter.unusedVariables false
set_option linter.unusedSimpArgs false
def RBel (z x y : World) : Prop := Below z.heap.size z x → Below z.heap.size z y
theorem RBel.refl (z x : World) : RBel z x x := fun h => h
theorem load_u32R {w : World} {ad : Addr} {v : Value} (h : w.cell? ad = some v) : (loadVar 24 ad).run Tryd.prog w = .ok v w := by simp [go_sem, h]
theorem load_bytessR {w : World} {ad : Addr} {v : Value} (h : w.cell? ad = some v) : (loadVar 26 ad).run Tryd.prog w = .ok v w := by simp [go_sem, h]
theorem F_lenL {Q : Exit → Act → World → Prop} {o : Oper} {a : Act} {w : World} {Mi : World → Prop} {R : World → World → Prop} {x : Operand} {A : Option Addr} {n c : Nat} (ho : o.op = .call { callee := .builtin .len, args := #[x], argTypes := #[26] }) (hx : a.eval x = .slice A n c) (hM : Mi w) (hR : R w w) : o.wp Tryd.prog a w (RK o a w (.int .i64 (n : Int)) Mi R) Q := by
  have hm : (#[x] : Array Operand).map a.eval = #[.slice A n c] := by rw [← hx]; simp
  have hl : (Builtin.len_ #[26] o.type #[.slice A n c]).run Tryd.prog w = .ok (.int .i64 (n : Int)) w := rfl
  refine F_val ?_ hM hR
  simp only [execOp, ho, resolve, hm]
  simp [go_sem, hl]
end Go.Proofs.YtlfajfmkljnodaaDoor
