/- Joined of: W12 W12a Vals CI W12b. -/
import Derived.Test.YtmnekhliblkibaaGP
import Derived.Test.YtmnekhliblkibaaGO
import Derived.Test.YtmnekhliblkibaaGK
section
/- The anchor's certificate, in plain Lean. -/
namespace Go.Proofs.Ytmnekhliblkibaa
set_option maxRecDepth 1000000
/-- The anchor's case. -/
def Kase.anchor : Kase := ⟨[], [5, 6], [7], [97], [98], ⟨0, 0, 0, 0, 0, 0⟩, ⟨0, 0, 0, 0, 0, 0⟩, 3, true, true, 2, 16⟩
theorem anchor_nil : (match Cert.parse [] with | .no n => n == 9 | .yes _ _ => false) = true := by decide +kernel
end Go.Proofs.Ytmnekhliblkibaa
end

section
/- Made of the anchor. -/
namespace Go.Proofs.Ytmnekhliblkibaa
open Go.RowKit
set_option maxRecDepth 100000
set_option linter.unusedVariables false
set_option linter.unusedSimpArgs false

def Tm.same (a b : Tm) : Bool := a.y == b.y && a.mo == b.mo && a.d == b.d && a.h == b.h && a.mi == b.mi && a.s == b.s
theorem Tm.same_eq {a b : Tm} (h : Tm.same a b = true) : a = b := by
  obtain ⟨a1, a2, a3, a4, a5, a6⟩ := a
  obtain ⟨b1, b2, b3, b4, b5, b6⟩ := b
  simp only [Tm.same, Bool.and_eq_true, beq_iff_eq] at h
  obtain ⟨⟨⟨⟨⟨rfl, rfl⟩, rfl⟩, rfl⟩, rfl⟩, rfl⟩ := h
  rfl
def Cert.Ans.ok (r : Cert.Ans) (k : Kase) (g0 : List UInt8) (e0 : Nat) : Bool := match r with
    | .yes s g => s.tbs == k.tbs && s.iss == Ref.name [97] && s.sub == Ref.name [98] && s.ser == k.serial && s.n == k.nn && g == g0 && s.e == e0 && decide (s.fl = k.fl) && Tm.same s.from_ k.start && Tm.same s.to k.stop
    | .no _ => false
theorem anchor_ok : (Cert.parse Kase.anchor.raw).ok Kase.anchor [7] 3 = true := by decide +kernel
theorem anchor_parse : ∃ s g, Cert.parse Kase.anchor.raw = .yes s g ∧ s.tbs = Kase.anchor.tbs ∧ s.iss = Ref.name [97] ∧ s.sub = Ref.name [98] ∧ s.ser = Kase.anchor.serial ∧ s.n = Kase.anchor.nn ∧ g = [7] ∧ s.e = 3 ∧ s.fl = Kase.anchor.fl ∧ s.from_ = Kase.anchor.start ∧ s.to = Kase.anchor.stop := by
  have h := anchor_ok
  generalize Cert.parse Kase.anchor.raw = r at h
  cases r with
  | no e => cases h
  | yes s g =>
    simp only [Cert.Ans.ok, Bool.and_eq_true, beq_iff_eq, decide_eq_true_eq] at h
    obtain ⟨⟨⟨⟨⟨⟨⟨⟨⟨h1, h2⟩, h3⟩, h4⟩, h5⟩, h6⟩, h7⟩, h8⟩, h9⟩, h10⟩ := h
    exact ⟨s, g, rfl, h1, h2, h3, h4, h5, h6, h7, h8, Tm.same_eq h9, Tm.same_eq h10⟩
theorem made_anchor (A1 A2 : Option Addr) (w : World) (h1 : Rd w w.heap.size A1 2 2 [5, 6]) (h2 : Rd w w.heap.size A2 1 1 [7]) :
    Calls Try.prog 21 #[.agg #[.slice none 0 0, .slice A1 2 2, .slice A2 1 1, .string { data := #[97] }, .string { data := #[98] }, .int .u16 0, .int .u8 0, .int .u8 0, .int .u8 0, .int .u8 0, .int .u8 0, .int .u16 0, .int .u8 0, .int .u8 0, .int .u8 0, .int .u8 0, .int .u8 0, .int .u64 3, .bool true, .bool true, .int .u8 2, .int .u8 16]] w (MadeR Kase.anchor w) := by
  have hv : Kase.anchor.val (.slice none 0 0) (.slice A1 2 2) (.slice A2 1 1) = .agg #[.slice none 0 0, .slice A1 2 2, .slice A2 1 1, .string { data := #[97] }, .string { data := #[98] }, .int .u16 0, .int .u8 0, .int .u8 0, .int .u8 0, .int .u8 0, .int .u8 0, .int .u16 0, .int .u8 0, .int .u8 0, .int .u8 0, .int .u8 0, .int .u8 0, .int .u64 3, .bool true, .bool true, .int .u8 2, .int .u8 16] := rfl
  rw [← hv]
  have hf : Tm.fits ⟨0, 0, 0, 0, 0, 0⟩ := ⟨by decide, by decide, by decide, by decide, by decide, by decide⟩
  exact made_any Kase.anchor none A1 A2 0 0 2 2 1 1 w Rd.none_ h1 h2 ⟨by decide, by decide, by decide, by decide, by decide⟩ hf hf (by decide) (by decide) (by decide)
end Go.Proofs.Ytmnekhliblkibaa
end

section
/- A region that draws its order, with guards, whose slots' values are known ahead: each operation is shown once. -/
namespace Go.Proofs.Ytmnekhliblkibaa
open Go.RowKit
set_option maxRecDepth 100000
set_option linter.unusedVariables false
variable {P : Program} {ops : Array Oper} {Q : Exit → Act → World → Prop} {a0 : Act} {VS : Nat → Value} {G : World → Prop}

def notDst (ops : Array Oper) (t : Nat) : Bool := (List.range ops.size).all fun i => decide ((ops[i]?).bind (·.dst) ≠ some t)
def depOn (ops : Array Oper) (o : Oper) (j : Nat) : Bool := o.after.any fun e => Region.binds .any e && decide (e.on = j) && decide (j < ops.size)
/-- What one operation owes: its guard is decided by a value that is known; it is passed over, or it yields the value. -/
def VStep (P : Program) (ops : Array Oper) (Q : Exit → Act → World → Prop) (a0 : Act) (VS : Nat → Value) (G : World → Prop) (i : Nat) (o : Oper) : Prop :=
  (o.dst = none → VS i = undef) ∧
  ((∃ j b, o.guard = some (j, b) ∧ depOn ops o j = true ∧ VS j ≠ .bool b ∧ VS i = undef) ∨
   ((o.guard = none ∨ ∃ j b, o.guard = some (j, b) ∧ depOn ops o j = true ∧ VS j = .bool b) ∧
    ∀ a w, (∀ t, notDst ops t = true → a.eval (.tmp t) = a0.eval (.tmp t)) → (∀ j, depOn ops o j = true → slotOf ops a j = VS j) → G w →
      o.wp P a w (fun a' w' => a' = a.put o.dst (VS i) ∧ Below w.heap.size w w') Q))
theorem yielded_slot (ops : Array Oper) (a : Act) (j : Nat) : yielded ops a.tmps j = match slotOf ops a j with
    | .bool b => some b
    | _ => none := by
  unfold yielded slotOf
  cases h : (ops[j]?).bind (·.dst) with
  | none => simp [undef]
  | some d =>
    simp only [Option.bind_some, Act.eval, Array.getD_eq_getD_getElem?]
    cases h2 : a.tmps[d]? with
    | none => simp [undef]
    | some v => cases v <;> simp
theorem wanted_vs {o : Oper} {a : Act} {j : Nat} {b : Bool} (hg : o.guard = some (j, b)) (hs : slotOf ops a j = VS j) : Region.wanted o (yielded ops a.tmps) = true ↔ VS j = .bool b := by
  unfold Region.wanted
  rw [hg]
  simp only [yielded_slot, hs]
  constructor
  · intro h
    split at h
    · rename_i c hc
      rw [hc]
      simp at h
      rw [h]
    · simp at h
  · intro h
    rw [h]
    simp
def ValAll (P : Program) (ops : Array Oper) (Q : Exit → Act → World → Prop) (a0 : Act) (VS : Nat → Value) (G : World → Prop) : List Oper → Nat → Prop
  | [], _ => True
  | o :: l, k => VStep P ops Q a0 VS G k o ∧ ValAll P ops Q a0 VS G l (k + 1)
theorem ValAll.get : ∀ {l : List Oper} {k : Nat}, ValAll P ops Q a0 VS G l k → ∀ i o, l[i]? = some o → VStep P ops Q a0 VS G (k + i) o
  | [], _, _, i, o, h => by simp at h
  | x :: l, k, h, 0, o, ho => by
    simp only [List.getElem?_cons_zero, Option.some.injEq] at ho
    subst ho
    exact h.1
  | x :: l, k, h, i + 1, o, ho => by
    have := ValAll.get h.2 i o (by simpa using ho)
    rwa [show k + 1 + i = k + (i + 1) by omega] at this
theorem wpOps_vals (hGB : ∀ w w', G w → Below w.heap.size w w' → G w') (hd : dstsOk ops a0.tmps.size = true) (hA : afterOk ops = true)
    (hstep : ∀ i o, ops[i]? = some o → VStep P ops Q a0 VS G i o)
    (hdone : ∀ a w, a.defers = a0.defers → a.tmps.size = a0.tmps.size → (∀ t, notDst ops t = true → a.eval (.tmp t) = a0.eval (.tmp t)) → G w → (∀ i, i < ops.size → slotOf ops a i = VS i) → Q .normal a w) :
    ∀ (n k : Nat) (listed : Array Bool) (a : Act) (w : World), k + n = ops.size → (∀ j, j < k → listed.getD j false = true) → Mk a0 ops (fun i v _ => v = VS i) G listed a w → wpOps P ops Q (List.range' k n) a w := by
  have hmono : ∀ i v (w w' : World), Below w.heap.size w w' → v = VS i → v = VS i := fun _ _ _ _ _ h => h
  intro n
  induction n with
  | zero =>
    intro k listed a w hk hl h
    rw [List.range'_zero]
    exact hdone a w h.defers h.size h.frame h.world fun i hi => h.marks i hi (hl i (by omega))
  | succ n ih =>
    intro k listed a w hk hl h
    rw [List.range'_succ, wpOps_cons]
    have hlt : k < ops.size := by omega
    have ho : ops[k]? = some ops[k] := Array.getElem?_eq_getElem hlt
    have hil : k < listed.size := by rw [h.len]; exact hlt
    have hdep : ∀ j, depOn ops ops[k] j = true → slotOf ops a j = VS j := fun j hj => by
      obtain ⟨e, he, hb⟩ := Array.any_eq_true'.1 hj
      simp only [Bool.and_eq_true, decide_eq_true_eq] at hb
      obtain ⟨⟨hb1, rfl⟩, hb2⟩ := hb
      have hA2 := List.all_eq_true.1 hA k (by simpa using hlt)
      rw [ho] at hA2
      have hA3 := Array.all_eq_true_iff_forall_mem.1 hA2 e he
      rw [hb1] at hA3
      simp at hA3
      exact h.marks _ hb2 (hl _ hA3)
    have hnew : ∀ j, j < k + 1 → (listed.setIfInBounds k true).getD j false = true := fun j hj => by
      by_cases hjk : j = k
      · subst hjk
        simp [Array.getD, hil]
      · have := hl j (by omega)
        rw [Array.getD_eq_getD_getElem?] at this ⊢
        rwa [Array.getElem?_setIfInBounds_ne (fun e => hjk e.symm)]
    obtain ⟨hn, hs⟩ := hstep k _ ho
    unfold wpOp
    rw [ho]
    simp only
    rcases hs with ⟨j, b, hg, hj, hv, hu⟩ | ⟨hg, hs⟩
    · rw [if_neg (fun hw => hv ((wanted_vs hg (hdep j hj)).1 hw))]
      exact ih (k + 1) _ _ _ (by omega) hnew (h.step hmono hGB hd ho (fun _ => rfl) hu.symm (Below.refl _ _))
    · rw [if_pos (by
        rcases hg with hg | ⟨j, b, hg, hj, hv⟩
        · simp [Region.wanted, hg]
        · exact (wanted_vs hg (hdep j hj)).2 hv)]
      refine .inl (Oper.wp_mono ?_ (hs a w h.frame hdep h.world))
      rintro a' w' ⟨rfl, hB⟩
      exact ih (k + 1) _ _ _ (by omega) hnew (h.step hmono hGB hd ho hn rfl hB)
/-- The same of a region that is gone through in order. -/
theorem wp_region_seq {id : Nat} {w0 : World} (VS : Nat → Value) (G : World → Prop) (hGB : ∀ w w', G w → Below w.heap.size w w' → G w') (hd : dstsOk ops a0.tmps.size = true) (hA : afterOk ops = true)
    (hG0 : G w0) (hstep : ValAll P ops Q a0 VS G ops.toList 0)
    (hdone : ∀ a w, a.defers = a0.defers → a.tmps.size = a0.tmps.size → (∀ t, notDst ops t = true → a.eval (.tmp t) = a0.eval (.tmp t)) → G w → (∀ i, i < ops.size → slotOf ops a i = VS i) → Q .normal a w) :
    (Code.region id ops false).wp P Q a0 w0 := by
  refine wp_region ?_
  rw [List.range_eq_range']
  refine wpOps_vals hGB hd hA (fun i o ho => ?_) hdone _ 0 (Array.replicate ops.size false) _ _ (by omega) (fun j hj => absurd hj (by omega)) ⟨by simp, rfl, rfl, fun t _ => rfl, fun i hi h => ?_, hG0⟩
  · have := ValAll.get hstep i o (by simpa using ho)
    rwa [Nat.zero_add] at this
  · simp [Array.getD, hi] at h

section
variable {o : Oper} {i : Nat}
/-- An operation without a guard. -/
theorem VStep.run (hd : o.dst ≠ none) (hg : o.guard = none)
    (h : ∀ a w, (∀ t, notDst ops t = true → a.eval (.tmp t) = a0.eval (.tmp t)) → (∀ j, depOn ops o j = true → slotOf ops a j = VS j) → G w → o.wp P a w (fun a' w' => a' = a.put o.dst (VS i) ∧ Below w.heap.size w w') Q) : VStep P ops Q a0 VS G i o :=
  ⟨fun e => absurd e hd, .inr ⟨.inl hg, h⟩⟩
theorem VStep.yes (j : Nat) (b : Bool) (hd : o.dst ≠ none) (hg : o.guard = some (j, b)) (hj : depOn ops o j = true) (hv : VS j = .bool b)
    (h : ∀ a w, (∀ t, notDst ops t = true → a.eval (.tmp t) = a0.eval (.tmp t)) → (∀ j, depOn ops o j = true → slotOf ops a j = VS j) → G w → o.wp P a w (fun a' w' => a' = a.put o.dst (VS i) ∧ Below w.heap.size w w') Q) : VStep P ops Q a0 VS G i o :=
  ⟨fun e => absurd e hd, .inr ⟨.inr ⟨j, b, hg, hj, hv⟩, h⟩⟩
theorem VStep.skip (j : Nat) (b : Bool) (hg : o.guard = some (j, b)) (hj : depOn ops o j = true) (hv : VS j ≠ .bool b) (hu : VS i = undef) : VStep P ops Q a0 VS G i o :=
  ⟨fun _ => hu, .inl ⟨j, b, hg, hj, hv, hu⟩⟩
variable {a : Act} {w : World} {K : Act → World → Prop} {v : Value}
abbrev VK (o : Oper) (a : Act) (w : World) (v : Value) : Act → World → Prop := fun a' w' => a' = a.put o.dst v ∧ Below w.heap.size w w'
theorem V_val (hrun : (execOp a.eval o).run P w = .ok (.value v) w) : o.wp P a w (VK o a w v) Q := wp_val hrun ⟨rfl, Below.refl _ _⟩
theorem V_move {x : Operand} (ho : o.op = .move x) (hx : a.eval x = v) : o.wp P a w (VK o a w v) Q := wp_move ho ⟨by rw [hx], Below.refl _ _⟩
theorem V_assign {x : Operand} (ho : o.op = .assign x) (hx : a.eval x = v) : o.wp P a w (VK o a w v) Q := wp_assign ho ⟨by rw [hx], Below.refl _ _⟩
theorem V_load {t : TypeId} {x : Operand} {ad : Addr} (ho : o.op = .load t x) (hx : a.eval x = .pointer (some ad)) (hl : (loadVar t ad).run P w = .ok v w) : o.wp P a w (VK o a w v) Q := wp_load ho hx hl ⟨rfl, Below.refl _ _⟩
theorem V_call {f : FuncId} {fn : Func} {c : Code} {xs : Array Operand} {ts : Array TypeId} {args : Array Value} {R : Ending → World → Prop} (ho : o.op = .call { callee := .value (.func f), args := xs, argTypes := ts })
    (hf : P.funcs[f]? = some fn) (hb : fn.body = some c) (hnm : fn.name ≠ "runtime.NumGoroutine") (ha : xs.map a.eval = args) (hc : Calls P f args w R) (h : ∀ e w'', R e w'' → e = .returned v ∧ Below w.heap.size w w'') : o.wp P a w (VK o a w v) Q :=
  wp_callf ho hf hb hnm ha hc fun e w'' hR => ⟨v, (h e w'' hR).1, rfl, (h e w'' hR).2⟩
theorem V_pick {c x y : Operand} (ho : o.op = .pick c x y) {b : Bool} (hc : a.eval c = .bool b) (hx : (if b then a.eval x else a.eval y) = v) : o.wp P a w (VK o a w v) Q := by
  refine V_val ?_
  cases b <;> simp only [if_true, Bool.false_eq_true, if_false] at hx <;> simp only [execOp, ho, hc, hx, Sem.run_bind, Sem.run_pure, asBool, Result.andThen_ok] <;> rfl
end
end Go.Proofs.Ytmnekhliblkibaa
end

section
/- A certificate's rows in memory, as one fact. -/
namespace Go.Proofs.Ytmnekhliblkibaa
open Go.RowKit
set_option maxRecDepth 100000
set_option linter.unusedVariables false

structure CI (w : World) (C : CV) (raw tbs iss sub ser n sig : List UInt8) : Prop where
  raw : RdT w C.raw raw
  tbs : RdT w C.tbs tbs
  iss : RdT w C.iss iss
  sub : RdT w C.sub sub
  ser : RdT w C.ser ser
  n : RdT w C.n n
  sig : RdT w C.sig sig
variable {w w' : World} {C D : CV} {raw tbs iss sub ser n sig : List UInt8}
theorem CI.below (h : CI w C raw tbs iss sub ser n sig) (hb : Below w.heap.size w w') : CI w' C raw tbs iss sub ser n sig :=
  ⟨h.raw.below hb, h.tbs.below hb, h.iss.below hb, h.sub.below hb, h.ser.below hb, h.n.below hb, h.sig.below hb⟩
theorem CI.far {g : Nat} {E : CV} (h : CI w C raw tbs iss sub ser n sig) (hg : w.grownBy w' (some g)) (hb : Bc w g E) : CI w' C raw tbs iss sub ser n sig :=
  ⟨h.raw.far hg hb, h.tbs.far hg hb, h.iss.far hg hb, h.sub.far hg hb, h.ser.far hg hb, h.n.far hg hb, h.sig.far hg hb⟩
theorem rdt_one' {w : World} {v : Value} {xs : List UInt8} (h : RdT w v xs) : v.oneCell' = true := by
  obtain ⟨A, n, c, rfl, _⟩ := h
  rfl
theorem CI.one (h : CI w C raw tbs iss sub ser n sig) : ∀ v ∈ C.cells.toList, v.oneCell' = true :=
  CV.one (rdt_one' h.raw) (rdt_one' h.tbs) (rdt_one' h.iss) (rdt_one' h.sub) (rdt_one' h.ser) (rdt_one' h.n) (rdt_one' h.sig)
theorem CI.seven (h : CI w C raw tbs iss sub ser n sig) : ∀ (k : Nat) (xs : List UInt8), [raw, tbs, iss, sub, ser, n, sig][k]? = some xs → ∃ v, C.seven[k]? = some v ∧ RdV w w.heap.size v xs := by
  intro k xs hk
  match k, hk with
  | 0, hk => simp at hk; subst hk; exact ⟨_, rfl, h.raw.rdv⟩
  | 1, hk => simp at hk; subst hk; exact ⟨_, rfl, h.tbs.rdv⟩
  | 2, hk => simp at hk; subst hk; exact ⟨_, rfl, h.iss.rdv⟩
  | 3, hk => simp at hk; subst hk; exact ⟨_, rfl, h.sub.rdv⟩
  | 4, hk => simp at hk; subst hk; exact ⟨_, rfl, h.ser.rdv⟩
  | 5, hk => simp at hk; subst hk; exact ⟨_, rfl, h.n.rdv⟩
  | 6, hk => simp at hk; subst hk; exact ⟨_, rfl, h.sig.rdv⟩
  | k + 7, hk => simp at hk
theorem CI.same (h : CI w C raw tbs iss sub ser n sig) (h' : CI w D raw tbs iss sub ser n sig) (hf : C.from_ = D.from_) (ht : C.to = D.to) (he : C.e = D.e) (hfl : C.fl = D.fl) :
    Calls Try.prog 18 #[C.val, D.val] w fun e w' => e = .returned (.bool true) ∧ Below w.heap.size w w' :=
  same_any C D _ w rfl h.seven h'.seven hf ht he hfl
theorem CI.zero (w : World) : CI w CV.zero [] [] [] [] [] [] [] := by
  have h : RdT w (.slice none 0 0) [] := ⟨none, 0, 0, rfl, Rd.none_, fun ad e => by cases e⟩
  exact ⟨h, h, h, h, h, h, h⟩
/-- What Parse told, as such a fact. -/
theorem CI.parsed {lo : Nat} {s : Sg} {g b : List UInt8} {vr vt vi vs ve vn vg : Value} (h : ∀ p ∈ [(vr, b), (vt, s.tbs), (vi, s.iss), (vs, s.sub), (ve, s.ser), (vn, s.n), (vg, g)], OwnB w lo w.heap.size p.1 p.2) :
    CI w (s.cv vr vt vi vs ve vn vg) b s.tbs s.iss s.sub s.ser s.n g := by
  simp only [List.mem_cons, List.not_mem_nil, or_false, forall_eq_or_imp, forall_eq] at h
  obtain ⟨h1, h2, h3, h4, h5, h6, h7⟩ := h
  exact ⟨RdT.own h1, RdT.own h2, RdT.own h3, RdT.own h4, RdT.own h5, RdT.own h6, RdT.own h7⟩
theorem below_grow {w w1 w2 : World} {B g : Nat} (h : Below B w w1) (hg : w1.grownBy w2 (some g)) (hB : B ≤ g) (hw : B ≤ w.heap.size) : Below B w w2 :=
  h.grown hg (by have := h.size; omega) (fun j hj => by cases hj; exact hB)
end Go.Proofs.Ytmnekhliblkibaa
end

section
/- The law's works. -/
namespace Go.Proofs.Ytmnekhliblkibaa
open Go.RowKit
set_option maxRecDepth 100000
set_option linter.unusedVariables false
set_option linter.unusedSimpArgs false

set_option maxHeartbeats 4000000 in
theorem works12_any (w : World) : Calls Try.prog 14 #[] w fun e w' => e = .returned (.bool true) ∧ Below w.heap.size w w' := by
  have hr0 := Rd.lit w 5 [5, 6] [.int .u8 5, .int .u8 6] _ 2 rfl rfl rfl (by omega)
  have hr1 := Rd.lit (w.alloc (.cells #[.int .u8 5, .int .u8 6] 5)) 5 [7] [.int .u8 7] _ 1 rfl rfl rfl (by omega)
  have hA : Rd ((w.alloc (.cells #[.int .u8 5, .int .u8 6] 5)).alloc (.cells #[.int .u8 7] 5)) ((w.alloc (.cells #[.int .u8 5, .int .u8 6] 5)).alloc (.cells #[.int .u8 7] 5)).heap.size (some ⟨w.heap.size, 0, none⟩) 2 2 [5, 6] := (hr0.alloc (Nat.le_refl _) _).more (by simp)
  have hB : Rd ((w.alloc (.cells #[.int .u8 5, .int .u8 6] 5)).alloc (.cells #[.int .u8 7] 5)) ((w.alloc (.cells #[.int .u8 5, .int .u8 6] 5)).alloc (.cells #[.int .u8 7] 5)).heap.size (some ⟨w.heap.size + 1, 0, none⟩) 1 1 [7] := by simpa using hr1
  have HM := made_anchor _ _ _ hA hB
  clear hA hB hr0 hr1
  go_enter Try.func14, Try.ntmps14
  go_wp2_with fail
  refine HM.mono ?_
  clear HM
  rintro en w1 ⟨D, A, n, c, rfl, hob, q1, q2, q3, q4, q5, q6, q7, e1, e2, e3, e4, hb1⟩
  have hbw1 : Below w.heap.size w w1 := (((Below.refl _ w).alloc (Nat.le_refl _) _).alloc (by simp) _).trans (hb1.mono (by simp; omega))
  have hci : CI w1 D Kase.anchor.raw Kase.anchor.tbs (Ref.name [97]) (Ref.name [98]) Kase.anchor.serial Kase.anchor.nn [7] := ⟨q1, q2, q3, q4, q5, q6, q7⟩
  have hone := hci.one
  have H1 := Lib.hid (And.intro (RdT.own (hob.mono (Nat.le_refl _) (Nat.le_refl _))) (And.intro hci (And.intro e1 (And.intro e2 (And.intro e3 (And.intro e4 hbw1))))))
  clear hob q1 q2 q3 q4 q5 q6 q7 e1 e2 e3 e4 hb1 hbw1 hci
  go_wp2_with (first
    | ((with_reducible refine at_store_cert ?_); refine wpList_store_cert rfl _ _ rfl w1.heap.size CV.zero D rfl rfl (Blk.new w1 _ _) hone ?_; intro w2 hB2 hg2)
    | fail)
  have hg12 : Below w1.heap.size w1 w2 := below_grow ((Below.refl _ w1).alloc (Nat.le_refl _) _) hg2 (Nat.le_refl _) (Nat.le_refl _)
  obtain ⟨P0, P1, P2, hpe, hP⟩ := H1.out.1
  injection hpe with p1 p2 p3
  subst p1 p2 p3
  have hrA := hP.1.up hg12
  have hci2 := H1.out.2.1.below hg12
  have hbw2 := H1.out.2.2.2.2.2.2.trans (hg12.mono H1.out.2.2.2.2.2.2.size)
  obtain ⟨s, g, hs, t1, t2, t3, t4, t5, t6, t7, t8, t9, t10⟩ := anchor_parse
  refine (parse_cert_any A n c _ w2 hrA).mono ?_
  rintro en w3 ⟨hb3, ⟨m, hm, _⟩ | ⟨s', g', vr, vt, vi, vs, ve, vn, vg, hyes, rfl, hown, _⟩⟩
  · rw [hs] at hm; cases hm
  rw [hs] at hyes
  injection hyes with y1 y2
  subst y1 y2
  have hc3 := CI.parsed (s := s) (hown)
  have hone3 := hc3.one
  have hci3 := hci2.below hb3
  have hB3 := hB2.below hb3 hB2.lt
  have hs3 := hb3.size
  have hbw3 := hbw2.trans (hb3.mono hbw2.size)
  have H3 := Lib.hid (And.intro hc3 (And.intro hci3 hbw3))
  have HT := Lib.hid (And.intro t1 (And.intro t2 (And.intro t3 (And.intro t4 (And.intro t5 (And.intro t6 (And.intro t7 (And.intro t8 (And.intro t9 t10)))))))))
  clear hown hb3 hc3 hci3 hbw3 hbw2 hci2 hrA hs t1 t2 t3 t4 t5 t6 t7 t8 t9 t10 hP hone hg12 hg2 hB2
  go_wp2_with (first
    | ((with_reducible refine at_store_cert ?_); refine wpList_store_cert rfl _ _ rfl w3.heap.size CV.zero (s.cv vr vt vi vs ve vn vg) rfl rfl (Blk.new w3 _ _) hone3 ?_; intro w4 hB4 hg4)
    | fail)
  have hg34 : Below w3.heap.size w3 w4 := below_grow ((Below.refl _ w3).alloc (Nat.le_refl _) _) hg4 (Nat.le_refl _) (Nat.le_refl _)
  refine (parse_cert_any none 0 0 [] w4 Rd.none_).mono ?_
  rintro en w5 ⟨hb5, ⟨m, hm, hm0, rfl⟩ | ⟨s', g', vr', vt', vi', vs', ve', vn', vg', hyes, _⟩⟩
  rotate_left
  · have := anchor_nil
    rw [hyes] at this
    cases this
  have hm9 : m = 9 := by
    have := anchor_nil
    rw [hm] at this
    simpa using this
  subst hm9
  have hc5 := (H3.out.1.below hg34).below hb5
  have hci5 := (H3.out.2.1.below hg34).below hb5
  have hB5 := hB4.below hb5 hB4.lt
  have hB5' := (hB3.below hg34 hB3.lt).below hb5 (by have := hg34.size; have := hB3.lt; omega)
  have hbw4 := H3.out.2.2.trans (hg34.mono H3.out.2.2.size)
  have hbw5 := hbw4.trans (hb5.mono hbw4.size)
  have H5 := Lib.hid (And.intro hc5 (And.intro hci5 (And.intro hbw5 (And.intro hB5 hB5'))))
  clear hb5 hc5 hci5 hbw5 hbw4 hg34 hg4 hB3 hm hm0 hone3 hB5 hB5' hB4
  go_upto_region 4 with (first
    | ((with_reducible refine at_store_cert ?_); refine wpList_store_cert rfl _ _ rfl w5.heap.size CV.zero CV.zero rfl rfl (Blk.new w5 _ _) CV.zero_cells ?_; intro w6 hB6 hg6)
    | fail)
  have hg56 : Below w5.heap.size w5 w6 := below_grow ((Below.refl _ w5).alloc (Nat.le_refl _) _) hg6 (Nat.le_refl _) (Nat.le_refl _)
  have hc6 := H5.out.1.below hg56
  have hci6 := H5.out.2.1.below hg56
  have hbw6 := H5.out.2.2.1.trans (hg56.mono H5.out.2.2.1.size)
  have hB6 := H5.out.2.2.2.1.below hg56 H5.out.2.2.2.1.lt
  have hB6' := H5.out.2.2.2.2.below hg56 H5.out.2.2.2.2.lt
  have H6 := Lib.hid (And.intro hc6 (And.intro hci6 (And.intro hbw6 (And.intro hB6 hB6'))))
  clear hc6 hci6 hbw6 hB6 hB6' H5 H3 hg56 hg6
  -- the answer
  obtain ⟨t1, t2, t3, t4, t5, t6, t7, t8, t9, t10⟩ := HT.out
  have k20 : w6.cell? ⟨w3.heap.size, 20, none⟩ = some (.bool true) := (H6.out.2.2.2.1.at_ 20).trans (by show some (Value.bool s.fl.ca) = _; rw [t8]; rfl)
  have k21 : w6.cell? ⟨w3.heap.size, 21, none⟩ = some (.int .i64 1) := (H6.out.2.2.2.1.at_ 21).trans (by show some (Value.int .i64 s.fl.path) = _; rw [t8]; rfl)
  have k22 : w6.cell? ⟨w3.heap.size, 22, none⟩ = some (.int .i64 32) := (H6.out.2.2.2.1.at_ 22).trans (by show some (Value.int .i64 s.fl.usage) = _; rw [t8]; rfl)
  have k23 : w6.cell? ⟨w3.heap.size, 23, none⟩ = some (.bool true) := (H6.out.2.2.2.1.at_ 23).trans (by show some (Value.bool s.fl.code) = _; rw [t8]; rfl)
  have k18 : w6.cell? ⟨w3.heap.size, 18, none⟩ = some (.int .u64 3) := (H6.out.2.2.2.1.at_ 18).trans (by show some (Value.int .u64 (s.e : Int)) = _; rw [t7]; rfl)
  have hl3 : w3.heap.size < w6.heap.size := H6.out.2.2.2.1.lt
  have HSM : ∀ W, Below w6.heap.size w6 W → Calls Try.prog 18 #[D.val, (s.cv vr vt vi vs ve vn vg).val] W fun e w' => e = .returned (.bool true) ∧ Below W.heap.size W w' := fun W hW =>
    CI.same (H6.out.2.1.below hW) (by have h := H6.out.1.below hW; rwa [t1, t2, t3, t4, t5, t6] at h) (H1.out.2.2.1.trans t9.symm) (H1.out.2.2.2.1.trans t10.symm) (H1.out.2.2.2.2.1.trans t7.symm) (H1.out.2.2.2.2.2.1.trans t8.symm)
  clear t1 t2 t3 t4 t5 t6 t7 t8 t9 t10
  refine wp_region_seq ?VS (Below w6.heap.size w6) (fun w w' h1 h2 => h1.trans (h2.mono h1.size)) ?hd ?hA (Below.refl _ _) ?hs ?hdone
  case VS => exact fun i => ([.int .i64 0, .bool true, .bool true, .int .i64 9, .bool true, .bool true, .bool true, D.val, (s.cv vr vt vi vs ve vn vg).val, .bool true, .bool true, .bool true, .pointer (some ⟨w3.heap.size, 20, none⟩), .bool true, .bool true, .bool true, .pointer (some ⟨w3.heap.size, 21, none⟩), .int .i64 1, .bool true, .bool true, .bool true, .pointer (some ⟨w3.heap.size, 22, none⟩), .int .i64 32, .bool true, .bool true, .bool true, .pointer (some ⟨w3.heap.size, 23, none⟩), .bool true, .bool true, .bool true, .pointer (some ⟨w3.heap.size, 17, none⟩), .pointer (some ⟨w3.heap.size, 18, none⟩), .int .u64 3, .bool true, .bool true, .bool true] : List Value).getD i undef
  case hd => show dstsOk _ 58 = true; decide +kernel
  case hA => decide +kernel
  case hs =>
    refine ⟨?_, ?_, ?_, ?_, ?_, ?_, ?_, ?_, ?_, ?_, ?_, ?_, ?_, ?_, ?_, ?_, ?_, ?_, ?_, ?_, ?_, ?_, ?_, ?_, ?_, ?_, ?_, ?_, ?_, ?_, ?_, ?_, ?_, ?_, ?_, ?_, trivial⟩
    · exact VStep.run (by simp) rfl (fun a W hfr hdep hG => V_move rfl (hfr 4 (by decide +kernel)))
    · exact VStep.run (by simp) rfl (fun a W hfr hdep hG => V_val (by have e1 : a.eval (.tmp 23) = .int .i64 0 := (hdep 0 (by decide +kernel)); simp only [execOp, e1]; simp [go_sem]))
    · exact VStep.run (by simp) rfl (fun a W hfr hdep hG => V_move rfl (hdep 1 (by decide +kernel)))
    · exact VStep.yes 2 true (by simp) rfl (by decide +kernel) rfl (fun a W hfr hdep hG => V_move rfl (hfr 6 (by decide +kernel)))
    · exact VStep.yes 2 true (by simp) rfl (by decide +kernel) rfl (fun a W hfr hdep hG => V_val (by have e1 : a.eval (.tmp 26) = .int .i64 9 := (hdep 3 (by decide +kernel)); simp only [execOp, e1]; simp [go_sem]))
    · exact VStep.run (by simp) rfl (fun a W hfr hdep hG => V_pick rfl (b := true) (hdep 2 (by decide +kernel)) (hdep 4 (by decide +kernel)))
    · exact VStep.run (by simp) rfl (fun a W hfr hdep hG => V_move rfl (hdep 5 (by decide +kernel)))
    · exact VStep.yes 6 true (by simp) rfl (by decide +kernel) rfl (fun a W hfr hdep hG => V_load rfl (hfr 1 (by decide +kernel)) (load_cert (H6.out.2.2.2.2.below hG H6.out.2.2.2.2.lt)))
    · exact VStep.yes 6 true (by simp) rfl (by decide +kernel) rfl (fun a W hfr hdep hG => V_load rfl (hfr 3 (by decide +kernel)) (load_cert (H6.out.2.2.2.1.below hG H6.out.2.2.2.1.lt)))
    · exact VStep.yes 6 true (by simp) rfl (by decide +kernel) rfl (fun a W hfr hdep hG => V_call rfl Try.func18 rfl (by decide) (args := #[D.val, (s.cv vr vt vi vs ve vn vg).val]) (by have e1 : a.eval (.tmp 30) = D.val := (hdep 7 (by decide +kernel)); have e2 : a.eval (.tmp 31) = (s.cv vr vt vi vs ve vn vg).val := (hdep 8 (by decide +kernel)); simp [e1, e2]) (HSM W hG) (fun e w hR => hR))
    · exact VStep.run (by simp) rfl (fun a W hfr hdep hG => V_pick rfl (b := true) (hdep 6 (by decide +kernel)) (hdep 9 (by decide +kernel)))
    · exact VStep.run (by simp) rfl (fun a W hfr hdep hG => V_move rfl (hdep 10 (by decide +kernel)))
    · exact VStep.yes 11 true (by simp) rfl (by decide +kernel) rfl (fun a W hfr hdep hG => V_val (by have e1 : a.eval (.tmp 3) = .pointer (some ⟨w3.heap.size, 0, none⟩) := (hfr 3 (by decide +kernel)); simp only [execOp, e1]; simp [go_sem]))
    · exact VStep.yes 11 true (by simp) rfl (by decide +kernel) rfl (fun a W hfr hdep hG => V_load rfl (hdep 12 (by decide +kernel)) (load_bool ((hG.cell (p := ⟨w3.heap.size, 20, none⟩) hl3).trans k20)))
    · exact VStep.run (by simp) rfl (fun a W hfr hdep hG => V_pick rfl (b := true) (hdep 11 (by decide +kernel)) (hdep 13 (by decide +kernel)))
    · exact VStep.run (by simp) rfl (fun a W hfr hdep hG => V_move rfl (hdep 14 (by decide +kernel)))
    · exact VStep.yes 15 true (by simp) rfl (by decide +kernel) rfl (fun a W hfr hdep hG => V_val (by have e1 : a.eval (.tmp 3) = .pointer (some ⟨w3.heap.size, 0, none⟩) := (hfr 3 (by decide +kernel)); simp only [execOp, e1]; simp [go_sem]))
    · exact VStep.yes 15 true (by simp) rfl (by decide +kernel) rfl (fun a W hfr hdep hG => V_load rfl (hdep 16 (by decide +kernel)) (by have h := ((hG.cell (p := ⟨w3.heap.size, 21, none⟩) hl3).trans k21); simp [go_sem, h]))
    · exact VStep.yes 15 true (by simp) rfl (by decide +kernel) rfl (fun a W hfr hdep hG => V_val (by have e1 : a.eval (.tmp 40) = .int .i64 1 := (hdep 17 (by decide +kernel)); simp only [execOp, e1]; simp [go_sem]))
    · exact VStep.run (by simp) rfl (fun a W hfr hdep hG => V_pick rfl (b := true) (hdep 15 (by decide +kernel)) (hdep 18 (by decide +kernel)))
    · exact VStep.run (by simp) rfl (fun a W hfr hdep hG => V_move rfl (hdep 19 (by decide +kernel)))
    · exact VStep.yes 20 true (by simp) rfl (by decide +kernel) rfl (fun a W hfr hdep hG => V_val (by have e1 : a.eval (.tmp 3) = .pointer (some ⟨w3.heap.size, 0, none⟩) := (hfr 3 (by decide +kernel)); simp only [execOp, e1]; simp [go_sem]))
    · exact VStep.yes 20 true (by simp) rfl (by decide +kernel) rfl (fun a W hfr hdep hG => V_load rfl (hdep 21 (by decide +kernel)) (by have h := ((hG.cell (p := ⟨w3.heap.size, 22, none⟩) hl3).trans k22); simp [go_sem, h]))
    · exact VStep.yes 20 true (by simp) rfl (by decide +kernel) rfl (fun a W hfr hdep hG => V_val (by have e1 : a.eval (.tmp 45) = .int .i64 32 := (hdep 22 (by decide +kernel)); simp only [execOp, e1]; simp [go_sem]))
    · exact VStep.run (by simp) rfl (fun a W hfr hdep hG => V_pick rfl (b := true) (hdep 20 (by decide +kernel)) (hdep 23 (by decide +kernel)))
    · exact VStep.run (by simp) rfl (fun a W hfr hdep hG => V_move rfl (hdep 24 (by decide +kernel)))
    · exact VStep.yes 25 true (by simp) rfl (by decide +kernel) rfl (fun a W hfr hdep hG => V_val (by have e1 : a.eval (.tmp 3) = .pointer (some ⟨w3.heap.size, 0, none⟩) := (hfr 3 (by decide +kernel)); simp only [execOp, e1]; simp [go_sem]))
    · exact VStep.yes 25 true (by simp) rfl (by decide +kernel) rfl (fun a W hfr hdep hG => V_load rfl (hdep 26 (by decide +kernel)) (load_bool ((hG.cell (p := ⟨w3.heap.size, 23, none⟩) hl3).trans k23)))
    · exact VStep.run (by simp) rfl (fun a W hfr hdep hG => V_pick rfl (b := true) (hdep 25 (by decide +kernel)) (hdep 27 (by decide +kernel)))
    · exact VStep.run (by simp) rfl (fun a W hfr hdep hG => V_move rfl (hdep 28 (by decide +kernel)))
    · exact VStep.yes 29 true (by simp) rfl (by decide +kernel) rfl (fun a W hfr hdep hG => V_val (by have e1 : a.eval (.tmp 3) = .pointer (some ⟨w3.heap.size, 0, none⟩) := (hfr 3 (by decide +kernel)); simp only [execOp, e1]; simp [go_sem]))
    · exact VStep.yes 29 true (by simp) rfl (by decide +kernel) rfl (fun a W hfr hdep hG => V_val (by have e1 : a.eval (.tmp 53) = .pointer (some ⟨w3.heap.size, 17, none⟩) := (hdep 30 (by decide +kernel)); simp only [execOp, e1]; simp [go_sem]))
    · exact VStep.yes 29 true (by simp) rfl (by decide +kernel) rfl (fun a W hfr hdep hG => V_load rfl (hdep 31 (by decide +kernel)) (by have h := ((hG.cell (p := ⟨w3.heap.size, 18, none⟩) hl3).trans k18); simp [go_sem, h]))
    · exact VStep.yes 29 true (by simp) rfl (by decide +kernel) rfl (fun a W hfr hdep hG => V_val (by have e1 : a.eval (.tmp 55) = .int .u64 3 := (hdep 32 (by decide +kernel)); simp only [execOp, e1]; simp [go_sem]))
    · exact VStep.run (by simp) rfl (fun a W hfr hdep hG => V_pick rfl (b := true) (hdep 29 (by decide +kernel)) (hdep 33 (by decide +kernel)))
    · exact VStep.run (by simp) rfl (fun a W hfr hdep hG => V_assign rfl (hdep 34 (by decide +kernel)))
  case hdone =>
    intro a W hdf hsz hfr hG hJ
    have e := arr_eta a 58 hsz hdf
    rw [show (List.range 58).map (fun i => a.eval (.tmp i)) = [a.eval (.tmp 0), a.eval (.tmp 1), a.eval (.tmp 2), a.eval (.tmp 3), a.eval (.tmp 4), a.eval (.tmp 5), a.eval (.tmp 6), a.eval (.tmp 7), a.eval (.tmp 8), a.eval (.tmp 9), a.eval (.tmp 10), a.eval (.tmp 11), a.eval (.tmp 12), a.eval (.tmp 13), a.eval (.tmp 14), a.eval (.tmp 15), a.eval (.tmp 16), a.eval (.tmp 17), a.eval (.tmp 18), a.eval (.tmp 19), a.eval (.tmp 20), a.eval (.tmp 21), a.eval (.tmp 22), a.eval (.tmp 23), a.eval (.tmp 24), a.eval (.tmp 25), a.eval (.tmp 26), a.eval (.tmp 27), a.eval (.tmp 28), a.eval (.tmp 29), a.eval (.tmp 30), a.eval (.tmp 31), a.eval (.tmp 32), a.eval (.tmp 33), a.eval (.tmp 34), a.eval (.tmp 35), a.eval (.tmp 36), a.eval (.tmp 37), a.eval (.tmp 38), a.eval (.tmp 39), a.eval (.tmp 40), a.eval (.tmp 41), a.eval (.tmp 42), a.eval (.tmp 43), a.eval (.tmp 44), a.eval (.tmp 45), a.eval (.tmp 46), a.eval (.tmp 47), a.eval (.tmp 48), a.eval (.tmp 49), a.eval (.tmp 50), a.eval (.tmp 51), a.eval (.tmp 52), a.eval (.tmp 53), a.eval (.tmp 54), a.eval (.tmp 55), a.eval (.tmp 56), a.eval (.tmp 57)] from rfl] at e
    rw [show a.eval (.tmp 0) = .bool true from hJ 35 (by decide)] at e
    generalize a.eval (.tmp 1) = u1 at e
    generalize a.eval (.tmp 2) = u2 at e
    generalize a.eval (.tmp 3) = u3 at e
    generalize a.eval (.tmp 4) = u4 at e
    generalize a.eval (.tmp 5) = u5 at e
    generalize a.eval (.tmp 6) = u6 at e
    generalize a.eval (.tmp 7) = u7 at e
    generalize a.eval (.tmp 8) = u8 at e
    generalize a.eval (.tmp 9) = u9 at e
    generalize a.eval (.tmp 10) = u10 at e
    generalize a.eval (.tmp 11) = u11 at e
    generalize a.eval (.tmp 12) = u12 at e
    generalize a.eval (.tmp 13) = u13 at e
    generalize a.eval (.tmp 14) = u14 at e
    generalize a.eval (.tmp 15) = u15 at e
    generalize a.eval (.tmp 16) = u16 at e
    generalize a.eval (.tmp 17) = u17 at e
    generalize a.eval (.tmp 18) = u18 at e
    generalize a.eval (.tmp 19) = u19 at e
    generalize a.eval (.tmp 20) = u20 at e
    generalize a.eval (.tmp 21) = u21 at e
    generalize a.eval (.tmp 22) = u22 at e
    generalize a.eval (.tmp 23) = u23 at e
    generalize a.eval (.tmp 24) = u24 at e
    generalize a.eval (.tmp 25) = u25 at e
    generalize a.eval (.tmp 26) = u26 at e
    generalize a.eval (.tmp 27) = u27 at e
    generalize a.eval (.tmp 28) = u28 at e
    generalize a.eval (.tmp 29) = u29 at e
    generalize a.eval (.tmp 30) = u30 at e
    generalize a.eval (.tmp 31) = u31 at e
    generalize a.eval (.tmp 32) = u32 at e
    generalize a.eval (.tmp 33) = u33 at e
    generalize a.eval (.tmp 34) = u34 at e
    generalize a.eval (.tmp 35) = u35 at e
    generalize a.eval (.tmp 36) = u36 at e
    generalize a.eval (.tmp 37) = u37 at e
    generalize a.eval (.tmp 38) = u38 at e
    generalize a.eval (.tmp 39) = u39 at e
    generalize a.eval (.tmp 40) = u40 at e
    generalize a.eval (.tmp 41) = u41 at e
    generalize a.eval (.tmp 42) = u42 at e
    generalize a.eval (.tmp 43) = u43 at e
    generalize a.eval (.tmp 44) = u44 at e
    generalize a.eval (.tmp 45) = u45 at e
    generalize a.eval (.tmp 46) = u46 at e
    generalize a.eval (.tmp 47) = u47 at e
    generalize a.eval (.tmp 48) = u48 at e
    generalize a.eval (.tmp 49) = u49 at e
    generalize a.eval (.tmp 50) = u50 at e
    generalize a.eval (.tmp 51) = u51 at e
    generalize a.eval (.tmp 52) = u52 at e
    generalize a.eval (.tmp 53) = u53 at e
    generalize a.eval (.tmp 54) = u54 at e
    generalize a.eval (.tmp 55) = u55 at e
    generalize a.eval (.tmp 56) = u56 at e
    generalize a.eval (.tmp 57) = u57 at e
    subst e
    clear hfr hJ hsz hdf
    go_wp2
    go_ret
    exact ⟨rfl, H6.out.2.2.1.trans (hG.mono H6.out.2.2.1.size)⟩
end Go.Proofs.Ytmnekhliblkibaa
end
