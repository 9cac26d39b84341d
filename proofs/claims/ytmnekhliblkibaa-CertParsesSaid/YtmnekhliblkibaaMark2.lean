/- A region by marks where one operation says something of another's slot (a store into a variable that the region makes). -/
import Derived.Test.YtmnekhliblkibaaPutEl
namespace Go.Proofs.Ytmnekhliblkibaa
open Go.RowKit
set_option maxRecDepth 100000
set_option linter.unusedVariables false
variable {P : Program} {ops : Array Oper} {Q : Exit → Act → World → Prop} {a0 : Act} {J : Nat → Value → World → Prop} {G : World → Prop} {R S : World → World → Prop} {m p : Nat} {J2 : Value → World → Prop}

structure Mk2 (a0 : Act) (ops : Array Oper) (J : Nat → Value → World → Prop) (G : World → Prop) (m p : Nat) (J2 : Value → World → Prop) (listed : Array Bool) (a : Act) (w : World) : Prop where
  base : Mk a0 ops J G listed a w
  two : listed.getD m false = true → J2 (slotOf ops a p) w ∧ listed.getD p false = true
/-- What the operation m owes. -/
def TwoStep (P : Program) (ops : Array Oper) (Q : Exit → Act → World → Prop) (a0 : Act) (J : Nat → Value → World → Prop) (G : World → Prop) (R : World → World → Prop) (p : Nat) (J2 : Value → World → Prop) (i : Nat) (o : Oper) : Prop :=
  ∀ a w, (∀ t, ((List.range ops.size).all fun i => decide ((ops[i]?).bind (·.dst) ≠ some t)) = true → a.eval (.tmp t) = a0.eval (.tmp t)) → G w →
    (∀ j, (o.after.any fun e => Region.binds .any e && decide (e.on = j) && decide (j < ops.size)) = true → J j (slotOf ops a j) w) →
    o.wp P a w (fun a' w' => ∃ v, a' = a.put o.dst v ∧ (o.dst = none → v = undef) ∧ J i v w' ∧ R w w' ∧ J2 (slotOf ops a p) w') Q
/-- The operation m waits for p. -/
def waits (ops : Array Oper) (m p : Nat) : Bool := decide (p < ops.size) && decide (m ≠ p) && match ops[m]? with
  | none => false
  | some o => o.after.any fun e => Region.binds .any e && decide (e.on = p)
theorem getD_set_ne {l : Array Bool} {i j : Nat} (h : j ≠ i) : (l.setIfInBounds i true).getD j false = l.getD j false := by
  rw [Array.getD_eq_getD_getElem?, Array.getD_eq_getD_getElem?, Array.getElem?_setIfInBounds_ne (fun e => h e.symm)]
theorem getD_set_same {l : Array Bool} {i : Nat} (h : i < l.size) : (l.setIfInBounds i true).getD i false = true := by
  simp [Array.getD, h]
theorem getD_false {l : Array Bool} {i : Nat} (h : l.getD i true = false) : l.getD i false = false := by
  rw [Array.getD_eq_getD_getElem?] at h ⊢
  cases e : l[i]? with
  | none => rfl
  | some b => rw [e] at h; exact h
theorem wpAny_two (hmono : ∀ i v w w', R w w' → J i v w → J i v w') (hmonoS : ∀ i v w w', S w w' → J i v w → J i v w') (hJ2 : ∀ v w w', R w w' → J2 v w → J2 v w') (hGR : ∀ w w', G w → R w w' → G w') (hGS : ∀ w w', G w → S w w' → G w') (hd : dstsOk ops a0.tmps.size = true) (hg : noGuard ops = true) (hA : afterOk ops = true) (hW : waits ops m p = true)
    (hstep : ∀ i o, i ≠ m → ops[i]? = some o → MarkStep P ops Q a0 J G R i o) (htwo : ∀ o, ops[m]? = some o → TwoStep P ops Q a0 J G S p J2 m o)
    (hdone : ∀ a w, a.defers = a0.defers → a.tmps.size = a0.tmps.size → (∀ t, ((List.range ops.size).all fun i => decide ((ops[i]?).bind (·.dst) ≠ some t)) = true → a.eval (.tmp t) = a0.eval (.tmp t)) → G w → (∀ i, i < ops.size → J i (slotOf ops a i) w) → J2 (slotOf ops a p) w → Q .normal a w) :
    ∀ (fuel : Nat) (listed : Array Bool) (a : Act) (w : World), listed.toList.count false ≤ fuel → Mk2 a0 ops J G m p J2 listed a w → wpAny P .any ops Q fuel listed a w := by
  have hW' := hW
  simp only [waits, Bool.and_eq_true, decide_eq_true_eq] at hW'
  obtain ⟨⟨hp, hmp⟩, hmw⟩ := hW'
  have hms : m < ops.size := by
    by_cases h : m < ops.size
    · exact h
    · rw [Array.getElem?_eq_none (by omega)] at hmw
      cases hmw
  have fin : ∀ (listed : Array Bool) (a : Act) (w : World), Mk2 a0 ops J G m p J2 listed a w → Region.ready .any ops listed = [] → Q .normal a w := fun listed a w h hr =>
    hdone a w h.base.defers h.base.size h.base.frame h.base.world (fun i hi => h.base.marks i hi (all_listed hA h.base.len hr i i (Nat.le_refl _) hi)) (h.two (all_listed hA h.base.len hr m m (Nat.le_refl _) hms)).1
  intro fuel
  induction fuel with
  | zero =>
    intro listed a w hc h
    have hr : Region.ready .any ops listed = [] := by
      refine List.eq_nil_iff_forall_not_mem.2 fun i hi => ?_
      have hlt : i < ops.size := by
        have := (List.mem_filter.1 hi).1
        simpa using this
      have := ((ready_iff (Array.getElem?_eq_getElem hlt)).1 hi).1
      have hil : i < listed.size := by rw [h.base.len]; exact hlt
      have hf : false ∈ listed.toList := by
        simp only [Array.getD, hil, dite_true] at this
        rw [← this]
        simp
      have := List.count_pos_iff.2 hf
      omega
    exact ⟨hr, fin _ _ _ h hr⟩
  | succ fuel ih =>
    intro listed a w hc h
    refine ⟨fin _ _ _ h, fun i hi => ?_⟩
    have hlt : i < ops.size := by
      have := (List.mem_filter.1 hi).1
      simpa using this
    have ho : ops[i]? = some ops[i] := Array.getElem?_eq_getElem hlt
    have hr := (ready_iff ho).1 hi
    have hil : i < listed.size := by rw [h.base.len]; exact hlt
    have hli : listed[i] = false := by simpa [Array.getD, hil] using hr.1
    have hcnt : (listed.setIfInBounds i true).toList.count false ≤ fuel := by
      rw [Array.toList_setIfInBounds, List.count_set (by simpa using hil)]
      simp only [Array.getElem_toList, hli]
      have : 0 < listed.toList.count false := List.count_pos_iff.2 (by rw [← hli]; simp)
      simp only [show (false == false) = true from rfl, show (true == false) = false from rfl, if_true, Bool.false_eq_true, if_false]
      omega
    have hdep : ∀ j, ((ops[i]).after.any fun e => Region.binds .any e && decide (e.on = j) && decide (j < ops.size)) = true → J j (slotOf ops a j) w := fun j hj => by
      obtain ⟨e, he, hb⟩ := Array.any_eq_true'.1 hj
      simp only [Bool.and_eq_true, decide_eq_true_eq] at hb
      obtain ⟨⟨hb1, rfl⟩, hb2⟩ := hb
      exact h.base.marks _ hb2 (hr.2 e he hb1)
    have hslot : ∀ v, i ≠ p → slotOf ops (a.put (ops[i]).dst v) p = slotOf ops a p := fun v hip => by
      refine slot_put_ne fun d hd' => ?_
      have hdi := List.all_eq_true.1 hd i (by simpa using hlt)
      rw [ho] at hdi
      simp only [Option.bind_some, hd'] at hdi
      simp only [Bool.and_eq_true, decide_eq_true_eq, List.all_eq_true, List.mem_range, Bool.or_eq_true] at hdi
      exact (hdi.2 p hp).resolve_left (fun e => hip e.symm)
    unfold wpOp
    rw [ho]
    simp only
    have hgi : (ops[i]).guard = none := by
      have := Array.all_eq_true_iff_forall_mem.1 hg ops[i] (Array.getElem_mem hlt)
      simpa using this
    rw [if_pos (by simp [Region.wanted, hgi])]
    by_cases him : i = m
    · subst him
      have hpl : listed.getD p false = true := by
        rw [ho] at hmw
        obtain ⟨e, he, hb⟩ := Array.any_eq_true'.1 hmw
        simp only [Bool.and_eq_true, decide_eq_true_eq] at hb
        obtain ⟨hb1, rfl⟩ := hb
        exact hr.2 e he hb1
      refine .inl (Oper.wp_mono ?_ (htwo _ ho a w h.base.frame h.base.world hdep))
      rintro a' w' ⟨v, rfl, hv, hJ, hR, h2⟩
      refine ih _ _ _ hcnt ⟨h.base.step hmonoS hGS hd ho hv hJ hR, fun _ => ⟨?_, ?_⟩⟩
      · rw [hslot v hmp]
        exact h2
      · rw [getD_set_ne (fun e => hmp e.symm)]
        exact hpl
    · refine .inl (Oper.wp_mono ?_ (hstep i _ him ho a w h.base.frame h.base.world hdep))
      rintro a' w' ⟨v, rfl, hv, hJ, hR⟩
      refine ih _ _ _ hcnt ⟨h.base.step hmono hGR hd ho hv hJ hR, fun hl => ?_⟩
      rw [getD_set_ne (fun e => him e.symm)] at hl
      obtain ⟨h2, hpl⟩ := h.two hl
      have hip : i ≠ p := fun e => by
        subst e
        rw [getD_false hr.1] at hpl
        cases hpl
      rw [hslot v hip, getD_set_ne (fun e => hip e.symm)]
      exact ⟨hJ2 _ _ _ hR h2, hpl⟩
/-- Each in its turn, the operation m by its own law. -/
def TwoAll (P : Program) (ops : Array Oper) (Q : Exit → Act → World → Prop) (a0 : Act) (J : Nat → Value → World → Prop) (G : World → Prop) (R S : World → World → Prop) (m p : Nat) (J2 : Value → World → Prop) : List Oper → Nat → Prop
  | [], _ => True
  | o :: l, k => (if k = m then TwoStep P ops Q a0 J G S p J2 k o else MarkStep P ops Q a0 J G R k o) ∧ TwoAll P ops Q a0 J G R S m p J2 l (k + 1)
theorem TwoAll.get : ∀ {l : List Oper} {k : Nat}, TwoAll P ops Q a0 J G R S m p J2 l k → ∀ i o, l[i]? = some o → if k + i = m then TwoStep P ops Q a0 J G S p J2 (k + i) o else MarkStep P ops Q a0 J G R (k + i) o
  | [], _, _, i, o, h => by simp at h
  | x :: l, k, h, 0, o, ho => by
    simp only [List.getElem?_cons_zero, Option.some.injEq] at ho
    subst ho
    exact h.1
  | x :: l, k, h, i + 1, o, ho => by
    have := TwoAll.get h.2 i o (by simpa using ho)
    rwa [show k + 1 + i = k + (i + 1) by omega] at this
theorem wp_region_two {id : Nat} {w0 : World} (m p : Nat) (J : Nat → Value → World → Prop) (J2 : Value → World → Prop) (G : World → Prop) (R S : World → World → Prop) (hm : P.follows .mixedOrders = true) (hmono : ∀ i v w w', R w w' → J i v w → J i v w') (hmonoS : ∀ i v w w', S w w' → J i v w → J i v w') (hJ2 : ∀ v w w', R w w' → J2 v w → J2 v w') (hGR : ∀ w w', G w → R w w' → G w') (hGS : ∀ w w', G w → S w w' → G w')
    (hd : dstsOk ops a0.tmps.size = true) (hg : noGuard ops = true) (hA : afterOk ops = true) (hW : waits ops m p = true) (hG0 : G w0.drew) (hstep : TwoAll P ops Q a0 J G R S m p J2 ops.toList 0)
    (hdone : ∀ a w, a.defers = a0.defers → a.tmps.size = a0.tmps.size → (∀ t, ((List.range ops.size).all fun i => decide ((ops[i]?).bind (·.dst) ≠ some t)) = true → a.eval (.tmp t) = a0.eval (.tmp t)) → G w → (∀ i, i < ops.size → J i (slotOf ops a i) w) → J2 (slotOf ops a p) w → Q .normal a w) :
    (Code.region id ops true).wp P Q a0 w0 := by
  refine wp_region_any hm (wpAny_two (m := m) (p := p) (J2 := J2) hmono hmonoS hJ2 hGR hGS hd hg hA hW (fun i o him ho => ?_) (fun o ho => ?_) hdone _ _ _ _ ?_ ⟨⟨by simp, rfl, rfl, fun t _ => rfl, fun i hi h => ?_, hG0⟩, fun h => ?_⟩)
  · have := TwoAll.get hstep i o (by simpa using ho)
    rw [Nat.zero_add, if_neg him] at this
    exact this
  · have := TwoAll.get hstep m o (by simpa using ho)
    rw [Nat.zero_add, if_pos rfl] at this
    exact this
  · simp
  · simp [Array.getD, hi] at h
  · exfalso
    have hms : m < ops.size := by
      simp only [waits, Bool.and_eq_true, decide_eq_true_eq] at hW
      by_cases h : m < ops.size
      · exact h
      · rw [Array.getElem?_eq_none (by omega)] at hW
        exact absurd hW.2 (by simp)
    simp [Array.getD, hms] at h
end Go.Proofs.Ytmnekhliblkibaa
