/- A turn (a shape, a checksum, a byte somewhere): opened; in memory. -/
import Derived.Test.YtlfajfmkljnodaaDoorPeOpenSh
import Derived.Test.YtlfajfmkljnodaaDoorPeFr
namespace Go.Proofs.YtlfajfmkljnodaaDoor
open Go.ChangeShapes Go.WideShapes Go.ChangeAt Go.RowKit
set_option maxRecDepth 100000
set_option linter.unusedVariables false
set_option linter.unusedSimpArgs false

def turnCells (V : ShV) (a b : Nat) (v : UInt8) : Array Value := V.cells ++ #[.int .u32 (a : Int), .int .u16 (b : Int), .int .u8 (v.toNat : Int)]
theorem turn_num {k : IntKind} {n : Int} (h : (Lit.int k n).wf = true) (hk : k.min = 0) : n = ((n.toNat : Nat) : Int) ∧ (n.toNat : Int) ≤ k.max := by
  simp only [Lit.wf, Bool.and_eq_true, decide_eq_true_eq] at h
  omega
theorem open_turn {H : Type} {enc : TypeId × Value → H} {W : World} {v : Value} {d : DataW H} {p : List MemPlace} {base : Nat} (hv : Value.okWide Tryd.prog W .any base 54 v)
    (h : DataW.Trod enc Tryd.prog W 0 (fun _ => true) true 54 v d p) :
    ∃ (V : ShV) (s : Pe.Shape) (a b : Nat) (x : UInt8), v = .agg (turnCells V a b x) ∧ ShRd W W.heap.size V s ∧ a < 4294967296 ∧ b < 65536 := by
  obtain ⟨ws, rfl, _⟩ := okWide_struct Tryd.underlying54 hv
  obtain ⟨fuel, hf⟩ := h
  have hf : DataW.trod enc Tryd.prog W 0 (fun _ => true) true fuel 54 ws.toList = some (d, p) := hf
  obtain ⟨xs, n, _, _, hl, hxl, hfd⟩ := DataW.trod_struct Tryd.underlying54 hf
  have hl10 : ws.toList.length = 10 := hl
  have hx4 : xs.length = 4 := hxl
  have hx : ∀ i, i < 4 → ∃ y, xs[i]? = some y := fun i hi => ⟨xs[i]'(by omega), List.getElem?_eq_getElem _⟩
  obtain ⟨cs, rfl⟩ : ∃ cs : List Value, ws = cs.toArray := ⟨ws.toList, by simp⟩
  rw [List.toList_toArray] at hl10 hfd
  match cs, hl10 with
  | [q0, q1, q2, q3, q4, q5, q6, q7, q8, q9], _ =>
    have k0 := hfd 0 _ rfl
    have k1 := hfd 1 _ rfl
    have k2 := hfd 2 _ rfl
    have k3 := hfd 3 _ rfl
    obtain ⟨⟨y0, p0⟩, e0⟩ := hx 0 (by omega)
    obtain ⟨y1, e1⟩ := hx 1 (by omega)
    obtain ⟨y2, e2⟩ := hx 2 (by omega)
    obtain ⟨y3, e3⟩ := hx 3 (by omega)
    rw [e0] at k0
    rw [e1] at k1
    rw [e2] at k2
    rw [e3] at k3
    obtain ⟨V, s, r0, b0⟩ := open_sh_at k0
    obtain ⟨a1, r1, _, b1⟩ := DataW.trod_int Tryd.underlying24 k1
    obtain ⟨a2, r2, _, b2⟩ := DataW.trod_int Tryd.underlying52 k2
    obtain ⟨a3, r3, _, b3⟩ := DataW.trod_int Tryd.underlying5 k3
    have s0 : [q0, q1, q2, q3, q4, q5, q6] = V.cells.toList := r0
    have s1 : [q7] = _ := r1
    have s2 : [q8] = _ := r2
    have s3 : [q9] = _ := r3
    simp only [List.cons.injEq, and_true] at s1 s2 s3
    have u1 := turn_num b1 rfl
    have u2 := turn_num b2 rfl
    have u3 := turn_num b3 rfl
    have m1 : IntKind.u32.max = 4294967295 := rfl
    have m2 : IntKind.u16.max = 65535 := rfl
    have m3 : IntKind.u8.max = 255 := rfl
    subst s1 s2 s3
    refine ⟨V, s, a1.toNat, a2.toNat, UInt8.ofNat a3.toNat, ?_, b0, by omega, by omega⟩
    unfold turnCells
    rw [← u1.1, ← u2.1, UInt8.toNat_ofNat', Nat.mod_eq_of_lt (by omega), ← u3.1]
    congr 1
    apply Array.toList_inj.1
    rw [Array.toList_append, ← s0]
    rfl
theorem load_turn {w : World} {g : Nat} {V : ShV} {a b : Nat} {v : UInt8} (h : Blk w g 54 (turnCells V a b v)) : (loadVar 39 ⟨g, 0, none⟩).run Tryd.prog w = .ok V.val w := by
  have hk := h.cell
  refine run_loadVar_mid (P := Tryd.prog) w g 0 39 V.cells.toList _ (fun j v hv => ?_) Tryd.underlying39 rfl rfl
  rw [Nat.zero_add, hk]
  unfold turnCells
  have hj := (List.getElem?_eq_some_iff.1 hv).1
  rw [Array.getElem?_append_left (by simpa using hj)]
  simpa using hv
theorem wpList_load_turn {ops : Array Oper} {rest : List Oper} {op : Oper} {a : Act} {w : World} {Q : Exit → Act → World → Prop} (hgd : op.guard = none) (x : Operand) (ho : op.op = .load 39 x)
    (g : Nat) (V : ShV) {m n : Nat} {v : UInt8} (hx : a.eval x = .pointer (some ⟨g, 0, none⟩)) (hB : Blk w g 54 (turnCells V m n v)) (h : wpList Tryd.prog ops Q rest (a.put op.dst V.val) w) : wpList Tryd.prog ops Q (op :: rest) a w := by
  refine wpList_plain hgd fun K hK => ?_
  unfold Oper.wp execOp
  simp only [ho, hx, Instr.loadAt, Instr.sureAddr, Sem.run_bind, Sem.run_pure, Result.andThen_ok, load_turn hB]
  exact hK _ _ h
end Go.Proofs.YtlfajfmkljnodaaDoor
