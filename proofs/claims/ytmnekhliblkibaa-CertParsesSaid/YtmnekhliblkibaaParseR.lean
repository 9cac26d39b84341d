/- Regions that parse what a chain of calls has made, and keep the certificate in a variable. -/
import Derived.Test.YtmnekhliblkibaaMark2
namespace Go.Proofs.Ytmnekhliblkibaa
open Go.RowKit
set_option maxRecDepth 100000
set_option linter.unusedVariables false
set_option linter.unusedSimpArgs false

def RN (w w' : World) : Prop := Below w.heap.size w w'
/-- What the store into a certificate's variable leaves as it was. -/
def SN (B : Nat) (w w' : World) : Prop := Below B w w' ∧ w.heap.size ≤ w'.heap.size ∧ (∀ (g : Nat) (cs : Array Value) (t : TypeId) (fr : Nat × Nat), w.heap[g]? = some (Obj.cells cs t fr) → t ≠ 32 → w'.heap[g]? = w.heap[g]?) ∧ ∀ g C, Bc w g C → ∃ C', Bc w' g C'
theorem SN.store {B g : Nat} {w w' : World} {C D : CV} (hB : B ≤ g) (hC : Bc w g C) (hD : Bc w' g D) (hg : w.grownBy w' (some g)) (hw : B ≤ w.heap.size) : SN B w w' := by
  refine ⟨(Below.refl _ w).grown hg hw (fun j hj => by cases hj; exact hB), hg.size, fun k cs t fr hk ht => ?_, fun k E hE => ?_⟩
  · refine hg.block k (Array.getElem?_eq_some_iff.1 hk).1 (fun e => ?_)
    injection e with e
    subst e
    have h1 : w.heap[k]? = some (.cells C.cells 32 (0, 0)) := hC
    rw [hk] at h1
    injection h1 with h1
    injection h1 with _ h2 _
    exact ht h2
  · by_cases e : k = g
    · subst e
      exact ⟨D, hD⟩
    · exact ⟨E, Blk.grown hE hg (fun h => by injection h with h; exact e h)⟩
theorem SN.rdt {B : Nat} {w w' : World} {v : Value} {xs : List UInt8} (h : SN B w w') (hr : RdT w v xs) : RdT w' v xs := hr.keep h.2.1 fun g cs fr hg => h.2.2.1 g cs _ fr hg (by decide)
theorem SN.ci {B : Nat} {w w' : World} {C : CV} {raw tbs iss sub ser n sig : List UInt8} (h : SN B w w') (hc : CI w C raw tbs iss sub ser n sig) : CI w' C raw tbs iss sub ser n sig :=
  ⟨h.rdt hc.raw, h.rdt hc.tbs, h.rdt hc.iss, h.rdt hc.sub, h.rdt hc.ser, h.rdt hc.n, h.rdt hc.sig⟩
def Cert.Ans.err : Cert.Ans → Nat
  | .no m => m
  | .yes _ _ => 0
/-- The certificate that Parse hands back. -/
def PCd (r : Cert.Ans) (b : List UInt8) (C : CV) (w : World) : Prop := match r with
  | .no m => C = CV.zero ∧ m ≠ 0
  | .yes s g => C.from_ = s.from_ ∧ C.to = s.to ∧ C.e = s.e ∧ C.fl = s.fl ∧ CI w C b s.tbs s.iss s.sub s.ser s.n g
structure PC (r : Cert.Ans) (b : List UInt8) (C : CV) (w : World) : Prop where
  out : PCd r b C w
theorem PC.rn {r : Cert.Ans} {b : List UInt8} {C : CV} {w w' : World} (h : PC r b C w) (hr : RN w w') : PC r b C w' := by
  cases r with
  | no m => exact ⟨h.out⟩
  | yes s g =>
    obtain ⟨h1, h2, h3, h4, h5⟩ := h.out
    exact ⟨⟨h1, h2, h3, h4, h5.below hr⟩⟩
theorem PC.sn {B : Nat} {r : Cert.Ans} {b : List UInt8} {C : CV} {w w' : World} (h : PC r b C w) (hr : SN B w w') : PC r b C w' := by
  cases r with
  | no m => exact ⟨h.out⟩
  | yes s g =>
    obtain ⟨h1, h2, h3, h4, h5⟩ := h.out
    exact ⟨⟨h1, h2, h3, h4, hr.ci h5⟩⟩
theorem PC.one {r : Cert.Ans} {b : List UInt8} {C : CV} {w : World} (h : PC r b C w) : ∀ v ∈ C.cells.toList, v.oneCell' = true := by
  cases r with
  | no m =>
    obtain ⟨rfl, _⟩ := h.out
    exact CV.zero_cells
  | yes s g =>
    obtain ⟨h1, h2, h3, h4, h5⟩ := h.out
    exact h5.one
/-- What the operations of such a region leave, the chain's own aside. -/
def JP (B : Nat) (b : List UInt8) : Nat → Value → World → Prop
  | 0, v, w => ∃ C, v = .tuple #[C.val, .int .i64 ((Cert.parse b).err : Int)] ∧ PC (Cert.parse b) b C w
  | 1, v, w => ∃ C, v = C.val ∧ PC (Cert.parse b) b C w
  | 2, v, _ => v = .int .i64 ((Cert.parse b).err : Int)
  | 3, v, w => ∃ g C, v = .pointer (some ⟨g, 0, none⟩) ∧ B ≤ g ∧ Bc w g C
  | _, _, _ => True
/-- The variable holds the certificate. -/
def JV (B : Nat) (b : List UInt8) (v : Value) (w : World) : Prop := ∃ g C, v = .pointer (some ⟨g, 0, none⟩) ∧ B ≤ g ∧ Bc w g C ∧ PC (Cert.parse b) b C w
theorem JP.rn {B : Nat} {b : List UInt8} (i : Nat) {v : Value} {w w' : World} (hr : RN w w') (h : JP B b i v w) : JP B b i v w' := by
  match i, h with
  | 0, h => obtain ⟨C, e, h⟩ := h; exact ⟨C, e, h.rn hr⟩
  | 1, h => obtain ⟨C, e, h⟩ := h; exact ⟨C, e, h.rn hr⟩
  | 2, h => exact h
  | 3, h => obtain ⟨g, C, e, hB, h⟩ := h; exact ⟨g, C, e, hB, h.below hr h.lt⟩
  | _ + 4, h => trivial
theorem JP.sn {B : Nat} {b : List UInt8} (i : Nat) {v : Value} {w w' : World} (hr : SN B w w') (h : JP B b i v w) : JP B b i v w' := by
  match i, h with
  | 0, h => obtain ⟨C, e, h⟩ := h; exact ⟨C, e, h.sn hr⟩
  | 1, h => obtain ⟨C, e, h⟩ := h; exact ⟨C, e, h.sn hr⟩
  | 2, h => exact h
  | 3, h => obtain ⟨g, C, e, hB, h⟩ := h; obtain ⟨C', h'⟩ := hr.2.2.2 g C h; exact ⟨g, C', e, hB, h'⟩
  | _ + 4, h => trivial
theorem JV.rn {B : Nat} {b : List UInt8} (v : Value) (w w' : World) (hr : RN w w') (h : JV B b v w) : JV B b v w' := by
  obtain ⟨g, C, e, hB, h1, h2⟩ := h
  exact ⟨g, C, e, hB, h1.below hr h1.lt, h2.rn hr⟩
section
variable {o : Oper} {a : Act} {w : World} {Q : Exit → Act → World → Prop} {J : Value → World → Prop} {B : Nat} {b : List UInt8}
abbrev KN (a : Act) (o : Oper) (J : Value → World → Prop) (w : World) : Act → World → Prop := fun a' w' => ∃ v, a' = a.put o.dst v ∧ (o.dst = none → v = undef) ∧ J v w' ∧ RN w w'
theorem N_move {x : Operand} (ho : o.op = .move x) (hd : o.dst ≠ none) (hJ : J (a.eval x) w) : o.wp Try.prog a w (KN a o J w) Q := wp_move ho ⟨_, rfl, fun h => absurd h hd, hJ, Below.refl _ _⟩
theorem N_assign {x : Operand} (ho : o.op = .assign x) (hd : o.dst ≠ none) (hJ : J (a.eval x) w) : o.wp Try.prog a w (KN a o J w) Q := wp_assign ho ⟨_, rfl, fun h => absurd h hd, hJ, Below.refl _ _⟩
theorem N_val {v : Value} (hrun : (execOp a.eval o).run Try.prog w = .ok (.value v) w) (hd : o.dst ≠ none) (hJ : J v w) : o.wp Try.prog a w (KN a o J w) Q := wp_val hrun ⟨_, rfl, fun h => absurd h hd, hJ, Below.refl _ _⟩
theorem N_load {t : TypeId} {x : Operand} {ad : Addr} {v : Value} (ho : o.op = .load t x) (hd : o.dst ≠ none) (hx : a.eval x = .pointer (some ad)) (hl : (loadVar t ad).run Try.prog w = .ok v w) (hJ : J v w) : o.wp Try.prog a w (KN a o J w) Q :=
  wp_load ho hx hl ⟨_, rfl, fun h => absurd h hd, hJ, Below.refl _ _⟩
theorem N_call {f : FuncId} {fn : Func} {c : Code} {xs : Array Operand} {ts : Array TypeId} {args : Array Value} {R : Ending → World → Prop} (ho : o.op = .call { callee := .value (.func f), args := xs, argTypes := ts }) (hd : o.dst ≠ none)
    (hf : Try.prog.funcs[f]? = some fn) (hb : fn.body = some c) (hnm : fn.name ≠ "runtime.NumGoroutine") (ha : xs.map a.eval = args) (hc : Calls Try.prog f args w R) (h : ∀ e w'', R e w'' → ∃ v, e = .returned v ∧ J v w'' ∧ Below w.heap.size w w'') : o.wp Try.prog a w (KN a o J w) Q :=
  wp_callf ho hf hb hnm ha hc fun e w'' hR => by
    obtain ⟨v, e1, hJ, hb⟩ := h e w'' hR
    exact ⟨v, e1, v, rfl, fun h => absurd h hd, hJ, hb⟩
theorem N_newc (ho : o.op = .alloc 32) (hd : o.dst ≠ none) (hB : B ≤ w.heap.size) : o.wp Try.prog a w (KN a o (JP B b 3) w) Q := by
  have hr : (Instr.alloc 32 true (.tuple #[])).run Try.prog w = .ok (.pointer (some ⟨w.heap.size, 0, none⟩)) (w.alloc (.cells CV.zero.cells 32)) := by
    simp [go_sem]
    try rfl
  exact wp_val (by simp only [execOp, ho]; simp [hr]) ⟨_, rfl, fun h => absurd h hd, ⟨_, CV.zero, rfl, hB, Blk.new w _ _⟩, (Below.refl _ _).alloc (Nat.le_refl _) _⟩
end
/-- The marks of a region, from a list. -/
def JL (L : List (Value → World → Prop)) (i : Nat) (v : Value) (w : World) : Prop := (L.getD i fun _ _ => True) v w
/-- What stays, whatever the operations do. -/
def Sta1 (B : Nat) (K : Value → World → Prop) : Prop := (∀ v w w', RN w w' → K v w → K v w') ∧ ∀ v w w', SN B w w' → K v w → K v w'
def Sta (B : Nat) (L : List (Value → World → Prop)) : Prop := ∀ i, Sta1 B (L.getD i fun _ _ => True)
theorem Sta.true (B : Nat) : Sta1 B fun _ _ => True := ⟨fun _ _ _ _ _ => trivial, fun _ _ _ _ _ => trivial⟩
theorem Sta.rdt (B : Nat) (xs : List UInt8) : Sta1 B fun v w => RdT w v xs := ⟨fun _ _ _ hr h => h.below hr, fun _ _ _ hr h => hr.rdt h⟩
theorem Sta.jp (B : Nat) (b : List UInt8) (i : Nat) : Sta1 B (JP B b i) := ⟨fun _ _ _ hr h => JP.rn i hr h, fun _ _ _ hr h => JP.sn i hr h⟩
theorem Sta.nil {B : Nat} : Sta B [] := fun i => by
  rw [List.getD_nil]
  exact Sta.true B
theorem Sta.cons {B : Nat} {K : Value → World → Prop} {L : List (Value → World → Prop)} (h : Sta1 B K) (hL : Sta B L) : Sta B (K :: L) := fun i => by
  cases i with
  | zero => exact h
  | succ i => exact hL i
theorem JL.rn {B : Nat} {L : List (Value → World → Prop)} (h : Sta B L) (i : Nat) (v : Value) (w w' : World) (hr : RN w w') (hJ : JL L i v w) : JL L i v w' := (h i).1 v w w' hr hJ
theorem JL.sn {B : Nat} {L : List (Value → World → Prop)} (h : Sta B L) (i : Nat) (v : Value) (w w' : World) (hr : SN B w w') (hJ : JL L i v w) : JL L i v w' := (h i).2 v w w' hr hJ
theorem two_else {P : Program} {ops : Array Oper} {Q : Exit → Act → World → Prop} {a0 : Act} {J : Nat → Value → World → Prop} {G : World → Prop} {R S : World → World → Prop} {m p k : Nat} {J2 : Value → World → Prop} {o : Oper} (h : k ≠ m) (hs : MarkStep P ops Q a0 J G R k o) :
    if k = m then TwoStep P ops Q a0 J G S p J2 k o else MarkStep P ops Q a0 J G R k o := by
  rw [if_neg h]
  exact hs
theorem two_then {P : Program} {ops : Array Oper} {Q : Exit → Act → World → Prop} {a0 : Act} {J : Nat → Value → World → Prop} {G : World → Prop} {R S : World → World → Prop} {p k : Nat} {J2 : Value → World → Prop} {o : Oper} (hs : TwoStep P ops Q a0 J G S p J2 k o) :
    if k = k then TwoStep P ops Q a0 J G S p J2 k o else MarkStep P ops Q a0 J G R k o := by
  rw [if_pos rfl]
  exact hs
end Go.Proofs.Ytmnekhliblkibaa
