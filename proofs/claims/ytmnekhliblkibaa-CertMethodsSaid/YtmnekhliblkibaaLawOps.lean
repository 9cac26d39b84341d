/- What the calls of the laws' regions owe. -/
import Derived.Test.YtmnekhliblkibaaParseR
import Derived.Test.YtmnekhliblkibaaPlain9
namespace Go.Proofs.Ytmnekhliblkibaa
open Go.RowKit
set_option maxRecDepth 100000
set_option linter.unusedVariables false
set_option linter.unusedSimpArgs false

section
variable {o : Oper} {a : Act} {w : World} {Q : Exit → Act → World → Prop} {B : Nat}
theorem RetOwn.rdt {xs : List UInt8} {w w' : World} {e : Ending} (h : RetOwn xs w e w') : ∃ v, e = .returned v ∧ RdT w' v xs ∧ Below w.heap.size w w' := by
  obtain ⟨A, n, c, rfl, ho, hb⟩ := h
  exact ⟨_, rfl, RdT.own ho, hb⟩
theorem N_case {x : Operand} {g : Nat} {k : Kase} {v0 v1 v2 : Value} (ho : o.op = .load 42 x) (hd : o.dst ≠ none) (hx : a.eval x = .pointer (some ⟨g, 0, none⟩)) (h : Blk w g 42 (k.row v0 v1 v2)) :
    o.wp Try.prog a w (KN a o (fun v _ => v = k.val v0 v1 v2) w) Q := N_load ho hd hx (load_case h) rfl
theorem N_write {k : Int} {t : UInt8} {x y : Operand} {ts : Array TypeId} {xs : List UInt8} {A : Option Addr} {n c : Nat} (ho : o.op = .call { callee := .value (.func 31), args := #[x, y], argTypes := ts }) (hd : o.dst ≠ none) (hk : (t.toNat : Int) = k)
    (hx : a.eval x = .int .u8 k) (hy : a.eval y = .slice A n c) (hr : Rd w w.heap.size A n c xs) (hn : xs.length ≤ 1000000) : o.wp Try.prog a w (KN a o (fun v w' => RdT w' v (Der.write t xs)) w) Q :=
  N_call ho hd Try.func31 rfl (by decide) (args := #[.int .u8 k, .slice A n c]) (by simp [hx, hy]) (refWrite_lit k t hk A n c xs w hr (by have := hr.len; omega)) fun e w' h => h.rdt
theorem N_writeT {k : Int} {t : UInt8} {x y : Operand} {ts : Array TypeId} {xs : List UInt8} (ho : o.op = .call { callee := .value (.func 31), args := #[x, y], argTypes := ts }) (hd : o.dst ≠ none) (hk : (t.toNat : Int) = k)
    (hx : a.eval x = .int .u8 k) (hy : RdT w (a.eval y) xs) (hn : xs.length ≤ 1000000) : o.wp Try.prog a w (KN a o (fun v w' => RdT w' v (Der.write t xs)) w) Q := by
  obtain ⟨A, n, c, e, hr, _⟩ := hy
  exact N_write ho hd hk hx e hr hn
theorem N_put {x y z : Operand} {ts : Array TypeId} {xs : List UInt8} {k : Kase} {A0 A1 A2 : Option Addr} {n0 c0 n1 c1 n2 c2 i : Nat} (ho : o.op = .call { callee := .value (.func 34), args := #[x, y, z], argTypes := ts }) (hd : o.dst ≠ none)
    (hx : a.eval x = k.val (.slice A0 n0 c0) (.slice A1 n1 c1) (.slice A2 n2 c2)) (hy : a.eval y = .int .i64 (i : Int)) (hi : i < 7) (hz : RdT w (a.eval z) xs) (hn : xs.length ≤ 1000000) (hk : k.come w A0 A1 A2 n0 c0 n1 c1 n2 c2) :
    o.wp Try.prog a w (KN a o (fun v w' => RdT w' v (Ref.wr (Ref.seq ((k.els.map (·.2.2)).set i xs)) (k.sig.take 100))) w) Q := by
  obtain ⟨A, n, c, e, hr, ht⟩ := hz
  exact N_call ho hd Try.func34 rfl (by decide) (args := #[k.val (.slice A0 n0 c0) (.slice A1 n1 c1) (.slice A2 n2 c2), .int .i64 (i : Int), .slice A n c]) (by simp [hx, hy, e])
    (put_any k A0 A1 A2 n0 c0 n1 c1 n2 c2 w hk i hi A n c xs ⟨A, n, c, rfl, hr, ht⟩ hn) fun e w' h => h.rdt
end
end Go.Proofs.Ytmnekhliblkibaa
