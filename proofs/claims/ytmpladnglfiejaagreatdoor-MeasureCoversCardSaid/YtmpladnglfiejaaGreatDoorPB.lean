/- Joined of: Marks MarksIn ValsR ValsA MarksPh MarksTail. -/
import Derived.Test.YtmpladnglfiejaaGreatDoorProg
import Derived.Test.YtmpladnglfiejaaGreatDoorPA
import Derived.Orders
import Derived.Great.Frames
import Derived.Great.BuildSlice
import Derived.OrdersIn
import Derived.Deep.RegionHeld3
import Derived.RangeFuncNested
import Derived.RangeFuncBound
section
/- A region that draws its order, by marks: what each operation leaves in its slot, shown once an operation, whatever the order. -/
namespace Go.Proofs.YtmpladnglfiejaaGreatDoor
open Go.RowKit
set_option maxRecDepth 100000
set_option linter.unusedVariables false

def slotOf (ops : Array Oper) (a : Act) (i : Nat) : Value := match (ops[i]?).bind (·.dst) with
  | some d => a.eval (.tmp d)
  | none => undef
/-- The slots of the region are different, and lie in the frame. -/
def dstsOk (ops : Array Oper) (n : Nat) : Bool :=
  (List.range ops.size).all fun i => match (ops[i]?).bind (·.dst) with
    | none => true
    | some d => decide (d < n) && (List.range ops.size).all fun j => decide (j = i) || decide ((ops[j]?).bind (·.dst) ≠ some d)
def noGuard (ops : Array Oper) : Bool := ops.all fun o => o.guard.isNone
structure Mk (a0 : Act) (ops : Array Oper) (J : Nat → Value → World → Prop) (G : World → Prop) (listed : Array Bool) (a : Act) (w : World) : Prop where
  len : listed.size = ops.size
  size : a.tmps.size = a0.tmps.size
  defers : a.defers = a0.defers
  frame : ∀ t, ((List.range ops.size).all fun i => decide ((ops[i]?).bind (·.dst) ≠ some t)) = true → a.eval (.tmp t) = a0.eval (.tmp t)
  marks : ∀ i, i < ops.size → listed.getD i false = true → J i (slotOf ops a i) w
  world : G w

theorem slot_put_same {ops : Array Oper} {a : Act} {i : Nat} {o : Oper} {v : Value} (ho : ops[i]? = some o) (hd : ∀ d, o.dst = some d → d < a.tmps.size) (hn : o.dst = none → v = undef) : slotOf ops (a.put o.dst v) i = v := by
  unfold slotOf
  rw [ho]
  simp only [Option.bind_some]
  cases h : o.dst with
  | none => exact (hn h).symm
  | some d => exact Act.eval_put_same a d v (hd d h)
theorem slot_put_ne {ops : Array Oper} {a : Act} {j : Nat} {o : Oper} {v : Value} (hd : ∀ d, o.dst = some d → (ops[j]?).bind (·.dst) ≠ some d) : slotOf ops (a.put o.dst v) j = slotOf ops a j := by
  unfold slotOf
  cases h : o.dst with
  | none => rfl
  | some d =>
    cases hj : (ops[j]?).bind (·.dst) with
    | none => rfl
    | some e => exact Act.eval_put_ne a d e v (fun e' => hd d h (by rw [hj, e']))

variable {P : Program} {ops : Array Oper} {Q : Exit → Act → World → Prop} {a0 : Act} {J : Nat → Value → World → Prop} {G : World → Prop} {R : World → World → Prop}
/-- What one operation owes. -/
def MarkStep (P : Program) (ops : Array Oper) (Q : Exit → Act → World → Prop) (a0 : Act) (J : Nat → Value → World → Prop) (G : World → Prop) (R : World → World → Prop) (i : Nat) (o : Oper) : Prop :=
  ∀ a w, (∀ t, ((List.range ops.size).all fun i => decide ((ops[i]?).bind (·.dst) ≠ some t)) = true → a.eval (.tmp t) = a0.eval (.tmp t)) → G w →
    (∀ j, (o.after.any fun e => Region.binds .any e && decide (e.on = j) && decide (j < ops.size)) = true → J j (slotOf ops a j) w) →
    o.wp P a w (fun a' w' => ∃ v, a' = a.put o.dst v ∧ (o.dst = none → v = undef) ∧ J i v w' ∧ R w w') Q

/-- Each operation waits for earlier ones alone. -/
def afterOk (ops : Array Oper) : Bool :=
  (List.range ops.size).all fun i => match ops[i]? with
    | none => true
    | some o => o.after.all fun e => !Region.binds .any e || decide (e.on < i)

theorem ready_iff {listed : Array Bool} {i : Nat} {o : Oper} (ho : ops[i]? = some o) : i ∈ Region.ready .any ops listed ↔ listed.getD i true = false ∧ ∀ e ∈ o.after, Region.binds .any e = true → listed.getD e.on false = true := by
  have hi : i < ops.size := (Array.getElem?_eq_some_iff.1 ho).1
  unfold Region.ready
  simp only [List.mem_filter, List.mem_range, hi, true_and, ho, Option.map_some, Option.getD_some, Bool.and_eq_true, Bool.not_eq_true', Array.all_eq_true_iff_forall_mem, Bool.or_eq_true]
  constructor
  · rintro ⟨h1, h2⟩
    refine ⟨h1, fun e he hb => ?_⟩
    rcases h2 e he with h | h
    · rw [hb] at h; cases h
    · exact h
  · rintro ⟨h1, h2⟩
    refine ⟨h1, fun e he => ?_⟩
    cases hb : Region.binds .any e with
    | false => exact .inl rfl
    | true => exact .inr (h2 e he hb)
theorem all_listed (hA : afterOk ops = true) {listed : Array Bool} (hl : listed.size = ops.size) (hr : Region.ready .any ops listed = []) : ∀ n i, i ≤ n → i < ops.size → listed.getD i false = true := by
  intro n
  induction n with
  | zero =>
    intro i h0 hi
    obtain rfl : i = 0 := by omega
    obtain ⟨o, ho⟩ : ∃ o, ops[0]? = some o := ⟨_, Array.getElem?_eq_getElem hi⟩
    cases hb : listed.getD 0 true with
    | true => simpa [Array.getD, hl, hi] using hb
    | false =>
      have : 0 ∈ Region.ready .any ops listed := (ready_iff ho).2 ⟨hb, fun e he hb => by
        have := List.all_eq_true.1 hA 0 (by simpa using hi)
        rw [ho] at this
        have := Array.all_eq_true_iff_forall_mem.1 this e he
        rw [hb] at this
        simp at this⟩
      rw [hr] at this
      cases this
  | succ n ih =>
    intro i h0 hi
    obtain ⟨o, ho⟩ : ∃ o, ops[i]? = some o := ⟨_, Array.getElem?_eq_getElem hi⟩
    cases hb : listed.getD i true with
    | true => simpa [Array.getD, hl, hi] using hb
    | false =>
      have : i ∈ Region.ready .any ops listed := (ready_iff ho).2 ⟨hb, fun e he hb => by
        have := List.all_eq_true.1 hA i (by simpa using hi)
        rw [ho] at this
        have := Array.all_eq_true_iff_forall_mem.1 this e he
        rw [hb] at this
        simp at this
        exact ih e.on (by omega) (by omega)⟩
      rw [hr] at this
      cases this

theorem Mk.step {listed : Array Bool} {a : Act} {w w' : World} {i : Nat} {o : Oper} {v : Value} (hmono : ∀ i v w w', R w w' → J i v w → J i v w') (hGR : ∀ w w', G w → R w w' → G w') (hd : dstsOk ops a0.tmps.size = true)
    (h : Mk a0 ops J G listed a w) (ho : ops[i]? = some o) (hv : o.dst = none → v = undef) (hJ : J i v w') (hR : R w w') : Mk a0 ops J G (listed.setIfInBounds i true) (a.put o.dst v) w' := by
  have hi : i < ops.size := (Array.getElem?_eq_some_iff.1 ho).1
  have hdi := List.all_eq_true.1 hd i (by simpa using hi)
  rw [ho] at hdi
  simp only [Option.bind_some] at hdi
  have hlt : ∀ d, o.dst = some d → d < a.tmps.size := fun d e => by
    rw [e] at hdi
    simp only [Bool.and_eq_true, decide_eq_true_eq] at hdi
    rw [h.size]; exact hdi.1
  have hne : ∀ j, j < ops.size → j ≠ i → ∀ d, o.dst = some d → (ops[j]?).bind (·.dst) ≠ some d := fun j hj hji d e => by
    rw [e] at hdi
    simp only [Bool.and_eq_true, decide_eq_true_eq, List.all_eq_true, List.mem_range, Bool.or_eq_true] at hdi
    exact (hdi.2 j hj).resolve_left hji
  refine ⟨by simpa using h.len, by rw [Act.size_put, h.size], by rw [Act.defers_put', h.defers], fun t ht => ?_, fun j hj hlj => ?_, hGR _ _ h.world hR⟩
  · rw [← h.frame t ht]
    cases e : o.dst with
    | none => rfl
    | some d =>
      have := List.all_eq_true.1 ht i (by simpa using hi)
      rw [ho] at this
      simp only [Option.bind_some, e, decide_eq_true_eq] at this
      exact Act.eval_put_ne a d t v (fun e' => this (by rw [e']))
  · have hgd : ∀ (l : Array Bool), (l.getD j false = true) = ((l[j]?.getD false) = true) := fun l => by rw [Array.getD_eq_getD_getElem?]
    by_cases hji : j = i
    · subst hji
      rw [slot_put_same ho hlt hv]
      exact hJ
    · rw [slot_put_ne (hne j hj hji)]
      have hl2 : listed.getD j false = true := by
        rw [hgd] at hlj ⊢
        rwa [Array.getElem?_setIfInBounds_ne (i := i) (j := j) (fun e => hji e.symm)] at hlj
      exact hmono j _ w w' hR (h.marks j hj hl2)

theorem wpAny_marks (hmono : ∀ i v w w', R w w' → J i v w → J i v w') (hGR : ∀ w w', G w → R w w' → G w') (hd : dstsOk ops a0.tmps.size = true) (hg : noGuard ops = true) (hA : afterOk ops = true)
    (hstep : ∀ i o, ops[i]? = some o → MarkStep P ops Q a0 J G R i o)
    (hdone : ∀ a w, a.defers = a0.defers → a.tmps.size = a0.tmps.size → (∀ t, ((List.range ops.size).all fun i => decide ((ops[i]?).bind (·.dst) ≠ some t)) = true → a.eval (.tmp t) = a0.eval (.tmp t)) → G w → (∀ i, i < ops.size → J i (slotOf ops a i) w) → Q .normal a w) :
    ∀ (fuel : Nat) (listed : Array Bool) (a : Act) (w : World), listed.toList.count false ≤ fuel → Mk a0 ops J G listed a w → wpAny P .any ops Q fuel listed a w := by
  have fin : ∀ (listed : Array Bool) (a : Act) (w : World), Mk a0 ops J G listed a w → Region.ready .any ops listed = [] → Q .normal a w := fun listed a w h hr =>
    hdone a w h.defers h.size h.frame h.world fun i hi => h.marks i hi (all_listed hA h.len hr i i (Nat.le_refl _) hi)
  intro fuel
  induction fuel with
  | zero =>
    intro listed a w hc h
    have hr : Region.ready .any ops listed = [] := by
      refine List.eq_nil_iff_forall_not_mem.2 fun i hi => ?_
      have hlt : i < ops.size := by
        have := (List.mem_filter.1 hi).1
        simpa using this
      have := ((ready_iff (Array.getElem?_eq_getElem hlt)).1 hi).1
      have hil : i < listed.size := by rw [h.len]; exact hlt
      have hf : false ∈ listed.toList := by
        simp only [Array.getD, hil, dite_true] at this
        rw [← this]
        simp
      have := List.count_pos_iff.2 hf
      omega
    exact ⟨hr, fin _ _ _ h hr⟩
  | succ fuel ih =>
    intro listed a w hc h
    refine ⟨fin _ _ _ h, fun i hi => ?_⟩
    have hlt : i < ops.size := by
      have := (List.mem_filter.1 hi).1
      simpa using this
    have ho : ops[i]? = some ops[i] := Array.getElem?_eq_getElem hlt
    have hr := (ready_iff ho).1 hi
    have hil : i < listed.size := by rw [h.len]; exact hlt
    have hli : listed[i] = false := by simpa [Array.getD, hil] using hr.1
    unfold wpOp
    rw [ho]
    simp only
    have hgi : (ops[i]).guard = none := by
      have := Array.all_eq_true_iff_forall_mem.1 hg ops[i] (Array.getElem_mem hlt)
      simpa using this
    rw [if_pos (by simp [Region.wanted, hgi])]
    refine .inl (Oper.wp_mono ?_ (hstep i _ ho a w h.frame h.world fun j hj => ?_))
    · rintro a' w' ⟨v, rfl, hv, hJ, hR⟩
      refine ih _ _ _ ?_ (h.step hmono hGR hd ho hv hJ hR)
      rw [Array.toList_setIfInBounds, List.count_set (by simpa using hil)]
      simp only [Array.getElem_toList, hli]
      have : 0 < listed.toList.count false := List.count_pos_iff.2 (by rw [← hli]; simp)
      simp only [show (false == false) = true from rfl, show (true == false) = false from rfl, if_true, Bool.false_eq_true, if_false]
      omega
    · obtain ⟨e, he, hb⟩ := Array.any_eq_true'.1 hj
      simp only [Bool.and_eq_true, decide_eq_true_eq] at hb
      obtain ⟨⟨hb1, rfl⟩, hb2⟩ := hb
      exact h.marks _ hb2 (hr.2 e he hb1)

theorem wp_region_marks {id : Nat} {w0 : World} (hm : P.follows .mixedOrders = true) (hmono : ∀ i v w w', R w w' → J i v w → J i v w') (hGR : ∀ w w', G w → R w w' → G w') (hd : dstsOk ops a0.tmps.size = true) (hg : noGuard ops = true) (hA : afterOk ops = true)
    (hG0 : G w0.drew) (hstep : ∀ i o, ops[i]? = some o → MarkStep P ops Q a0 J G R i o)
    (hdone : ∀ a w, a.defers = a0.defers → a.tmps.size = a0.tmps.size → (∀ t, ((List.range ops.size).all fun i => decide ((ops[i]?).bind (·.dst) ≠ some t)) = true → a.eval (.tmp t) = a0.eval (.tmp t)) → G w → (∀ i, i < ops.size → J i (slotOf ops a i) w) → Q .normal a w) :
    (Code.region id ops true).wp P Q a0 w0 := by
  refine wp_region_any hm (wpAny_marks hmono hGR hd hg hA hstep hdone _ _ _ _ ?_ ⟨by simp, rfl, rfl, fun t _ => rfl, fun i hi h => ?_, hG0⟩)
  · simp
  · simp [Array.getD, hi] at h
/-- Each in its turn. -/
def MarkAll (P : Program) (ops : Array Oper) (Q : Exit → Act → World → Prop) (a0 : Act) (J : Nat → Value → World → Prop) (G : World → Prop) (R : World → World → Prop) : List Oper → Nat → Prop
  | [], _ => True
  | o :: l, k => MarkStep P ops Q a0 J G R k o ∧ MarkAll P ops Q a0 J G R l (k + 1)
theorem MarkAll.get : ∀ {l : List Oper} {k : Nat}, MarkAll P ops Q a0 J G R l k → ∀ i o, l[i]? = some o → MarkStep P ops Q a0 J G R (k + i) o
  | [], _, _, i, o, h => by simp at h
  | x :: l, k, h, 0, o, ho => by
    simp only [List.getElem?_cons_zero, Option.some.injEq] at ho
    subst ho
    exact h.1
  | x :: l, k, h, i + 1, o, ho => by
    have := MarkAll.get h.2 i o (by simpa using ho)
    rwa [show k + 1 + i = k + (i + 1) by omega] at this
theorem wp_region_marked {id : Nat} {w0 : World} (J : Nat → Value → World → Prop) (G : World → Prop) (R : World → World → Prop) (hm : P.follows .mixedOrders = true) (hmono : ∀ i v w w', R w w' → J i v w → J i v w') (hGR : ∀ w w', G w → R w w' → G w') (hd : dstsOk ops a0.tmps.size = true) (hg : noGuard ops = true) (hA : afterOk ops = true)
    (hG0 : G w0.drew) (hstep : MarkAll P ops Q a0 J G R ops.toList 0)
    (hdone : ∀ a w, a.defers = a0.defers → a.tmps.size = a0.tmps.size → (∀ t, ((List.range ops.size).all fun i => decide ((ops[i]?).bind (·.dst) ≠ some t)) = true → a.eval (.tmp t) = a0.eval (.tmp t)) → G w → (∀ i, i < ops.size → J i (slotOf ops a i) w) → Q .normal a w) :
    (Code.region id ops true).wp P Q a0 w0 :=
  wp_region_marks hm hmono hGR hd hg hA hG0 (fun i o ho => by
    have := MarkAll.get hstep i o (by simpa using ho)
    rwa [Nat.zero_add] at this) hdone
/-- The last operation waits for all others. -/
def lastOk (ops : Array Oper) (m : Nat) : Bool := decide (ops.size = m + 1) && match ops[m]? with
  | none => false
  | some o => (List.range m).all fun j => o.after.any fun e => Region.binds .any e && decide (e.on = j)
theorem ready_all {listed : Array Bool} (h : ∀ i, i < ops.size → listed.getD i false = true) (hl : listed.size = ops.size) : Region.ready .any ops listed = [] := by
  refine List.eq_nil_iff_forall_not_mem.2 fun i hi => ?_
  have hlt : i < ops.size := by
    have := (List.mem_filter.1 hi).1
    simpa using this
  have h1 := ((ready_iff (Array.getElem?_eq_getElem hlt)).1 hi).1
  have h2 := h i hlt
  have hil : i < listed.size := by omega
  simp only [Array.getD, hil, dite_true] at h1 h2
  rw [h1] at h2
  cases h2
theorem wpAny_last {m : Nat} (hmono : ∀ i v w w', R w w' → J i v w → J i v w') (hGR : ∀ w w', G w → R w w' → G w') (hd : dstsOk ops a0.tmps.size = true) (hg : noGuard ops = true) (hA : afterOk ops = true) (hL : lastOk ops m = true)
    (hstep : ∀ i o, i < m → ops[i]? = some o → MarkStep P ops Q a0 J G R i o)
    (hlast : ∀ o, ops[m]? = some o → ∀ a w, a.defers = a0.defers → a.tmps.size = a0.tmps.size → (∀ t, ((List.range ops.size).all fun i => decide ((ops[i]?).bind (·.dst) ≠ some t)) = true → a.eval (.tmp t) = a0.eval (.tmp t)) → G w → (∀ i, i < m → J i (slotOf ops a i) w) →
      o.wp P a w (fun a' w' => Q .normal a' w') Q) :
    ∀ (fuel : Nat) (listed : Array Bool) (a : Act) (w : World), listed.toList.count false ≤ fuel → listed.getD m true = false → Mk a0 ops J G listed a w → wpAny P .any ops Q fuel listed a w := by
  simp only [lastOk, Bool.and_eq_true, decide_eq_true_eq] at hL
  obtain ⟨hm, hL⟩ := hL
  have hnr : ∀ (listed : Array Bool) (a : Act) (w : World), listed.getD m true = false → Mk a0 ops J G listed a w → Region.ready .any ops listed ≠ [] := fun listed a w hu h hr => by
    have h1 := all_listed hA h.len hr m m (Nat.le_refl _) (by omega)
    have hil : m < listed.size := by rw [h.len]; omega
    simp only [Array.getD, hil, dite_true] at hu h1
    rw [hu] at h1
    cases h1
  intro fuel
  induction fuel with
  | zero =>
    intro listed a w hc hu h
    have hil : m < listed.size := by rw [h.len]; omega
    have hf : false ∈ listed.toList := by
      simp only [Array.getD, hil, dite_true] at hu
      rw [← hu]
      simp
    have := List.count_pos_iff.2 hf
    omega
  | succ fuel ih =>
    intro listed a w hc hu h
    refine ⟨fun hr => absurd hr (hnr listed a w hu h), fun i hi => ?_⟩
    have hlt : i < ops.size := by
      have := (List.mem_filter.1 hi).1
      simpa using this
    have ho : ops[i]? = some ops[i] := Array.getElem?_eq_getElem hlt
    have hr := (ready_iff ho).1 hi
    have hil : i < listed.size := by rw [h.len]; exact hlt
    have hli : listed[i] = false := by simpa [Array.getD, hil] using hr.1
    unfold wpOp
    rw [ho]
    simp only
    have hgi : (ops[i]).guard = none := by
      have := Array.all_eq_true_iff_forall_mem.1 hg ops[i] (Array.getElem_mem hlt)
      simpa using this
    rw [if_pos (by simp [Region.wanted, hgi])]
    by_cases him : i = m
    · subst him
      have hall : ∀ j, j < i → listed.getD j false = true := fun j hj => by
        rw [ho] at hL
        have := List.all_eq_true.1 hL j (by simpa using hj)
        obtain ⟨e, he, hb⟩ := Array.any_eq_true'.1 this
        simp only [Bool.and_eq_true, decide_eq_true_eq] at hb
        obtain ⟨hb1, rfl⟩ := hb
        exact hr.2 e he hb1
      refine .inl (Oper.wp_mono ?_ (hlast _ ho a w h.defers h.size h.frame h.world fun j hj => h.marks j (by omega) (hall j hj)))
      intro a' w' hq
      refine wpAny_done (ready_all (fun j hj => ?_) (by simpa using h.len)) hq _
      by_cases hji : j = i
      · subst hji
        simp [Array.getD, hil]
      · have := hall j (by omega)
        rw [Array.getD_eq_getD_getElem?] at this ⊢
        rwa [Array.getElem?_setIfInBounds_ne (fun e => hji e.symm)]
    · refine .inl (Oper.wp_mono ?_ (hstep i _ (by omega) ho a w h.frame h.world fun j hj => ?_))
      · rintro a' w' ⟨v, rfl, hv, hJ, hR⟩
        refine ih _ _ _ ?_ ?_ (h.step hmono hGR hd ho hv hJ hR)
        · rw [Array.toList_setIfInBounds, List.count_set (by simpa using hil)]
          simp only [Array.getElem_toList, hli]
          have : 0 < listed.toList.count false := List.count_pos_iff.2 (by rw [← hli]; simp)
          simp only [show (false == false) = true from rfl, show (true == false) = false from rfl, if_true, Bool.false_eq_true, if_false]
          omega
        · rw [Array.getD_eq_getD_getElem?] at hu ⊢
          rwa [Array.getElem?_setIfInBounds_ne him]
      · obtain ⟨e, he, hb⟩ := Array.any_eq_true'.1 hj
        simp only [Bool.and_eq_true, decide_eq_true_eq] at hb
        obtain ⟨⟨hb1, rfl⟩, hb2⟩ := hb
        exact h.marks _ hb2 (hr.2 e he hb1)
theorem wp_region_last {id : Nat} {w0 : World} (m : Nat) (J : Nat → Value → World → Prop) (G : World → Prop) (R : World → World → Prop) (hm : P.follows .mixedOrders = true) (hmono : ∀ i v w w', R w w' → J i v w → J i v w') (hGR : ∀ w w', G w → R w w' → G w') (hd : dstsOk ops a0.tmps.size = true) (hg : noGuard ops = true) (hA : afterOk ops = true) (hL : lastOk ops m = true)
    (hG0 : G w0.drew) (hstep : MarkAll P ops Q a0 J G R (ops.toList.take m) 0)
    (hlast : ∀ o, ops[m]? = some o → ∀ a w, a.defers = a0.defers → a.tmps.size = a0.tmps.size → (∀ t, ((List.range ops.size).all fun i => decide ((ops[i]?).bind (·.dst) ≠ some t)) = true → a.eval (.tmp t) = a0.eval (.tmp t)) → G w → (∀ i, i < m → J i (slotOf ops a i) w) →
      o.wp P a w (fun a' w' => Q .normal a' w') Q) :
    (Code.region id ops true).wp P Q a0 w0 := by
  have hsz : ops.size = m + 1 := by
    simp only [lastOk, Bool.and_eq_true, decide_eq_true_eq] at hL
    exact hL.1
  refine wp_region_any hm (wpAny_last hmono hGR hd hg hA hL (fun i o hi ho => ?_) hlast _ _ _ _ ?_ ?_ ⟨by simp, rfl, rfl, fun t _ => rfl, fun i hi h => ?_, hG0⟩)
  · have := MarkAll.get hstep i o (by rw [List.getElem?_take, if_pos hi]; simpa using ho)
    rwa [Nat.zero_add] at this
  · simp
  · simp [Array.getD, hsz]
  · simp [Array.getD, hi] at h
end Go.Proofs.YtmpladnglfiejaaGreatDoor
end

section
/- A region that draws its order, by marks, inside the wide fence; an operation of the plain walk there. -/
namespace Go.Proofs.YtmpladnglfiejaaGreatDoor
open Go.RowKit
set_option maxRecDepth 100000
set_option linter.unusedVariables false

theorem rowsIn_of {P : Program} {n : Nat} {row : String} {args : Array Value} {w : World} {R : Value → World → Prop} (h : Rows P row args w R) : RowsIn Fence.wide n P row args w R :=
  fun c cs _ => let ⟨v, w', r, s⟩ := h c cs; ⟨v, w', r, stepsIn_wide.2 s⟩
theorem operIn_wide {P : Program} {o : Oper} {a : Act} {w : World} {n : Nat} {K : Act → World → Prop} {Q : Exit → Act → World → Prop} (h : o.wp P a w K Q) : o.wpIn Fence.wide n P a w K Q := by
  unfold Oper.wp at h
  unfold Oper.wpIn
  refine ⟨fun _ _ => trivial, ?_⟩
  have e : o.semAt Fence.wide.round a.eval = execOp a.eval o := rfl
  rw [e]
  generalize (execOp a.eval o).run P w = r at h ⊢
  cases r with
  | ok x w' =>
    cases x with
    | value v => exact h
    | skip => exact h
    | defer d => exact h
    | enter f args =>
      refine ⟨fun e => (by cases e), callsIn_wide.2 ?_⟩
      exact h
    | row r args =>
      refine ⟨fun e => (by cases e), ?_⟩
      exact rowsIn_of h
    | round l f t a b => exact False.elim h
    | _ => exact False.elim h
  | halt x w' =>
    cases x with
    | panic v => exact h
    | _ => exact False.elim h
variable {P : Program} {ops : Array Oper} {Q : Exit → Act → World → Prop} {a0 : Act} {J : Nat → Value → World → Prop} {G : World → Prop} {R : World → World → Prop} {F : Fence} {n : Nat}
/-- What one operation owes, inside a fence. -/
def MarkStepIn (F : Fence) (n : Nat) (P : Program) (ops : Array Oper) (Q : Exit → Act → World → Prop) (a0 : Act) (J : Nat → Value → World → Prop) (G : World → Prop) (R : World → World → Prop) (i : Nat) (o : Oper) : Prop :=
  ∀ a w, (∀ t, ((List.range ops.size).all fun i => decide ((ops[i]?).bind (·.dst) ≠ some t)) = true → a.eval (.tmp t) = a0.eval (.tmp t)) → G w →
    (∀ j, (o.after.any fun e => Region.binds .any e && decide (e.on = j) && decide (j < ops.size)) = true → J j (slotOf ops a j) w) →
    o.wpIn F n P a w (fun a' w' => ∃ v, a' = a.put o.dst v ∧ (o.dst = none → v = undef) ∧ J i v w' ∧ R w w') Q
theorem MarkStep.wide {i : Nat} {o : Oper} (h : MarkStep P ops Q a0 J G R i o) : MarkStepIn Fence.wide n P ops Q a0 J G R i o := fun a w h1 h2 h3 => operIn_wide (h a w h1 h2 h3)
theorem wpAnyIn_marks (hmono : ∀ i v w w', R w w' → J i v w → J i v w') (hGR : ∀ w w', G w → R w w' → G w') (hd : dstsOk ops a0.tmps.size = true) (hg : noGuard ops = true) (hA : afterOk ops = true)
    (hstep : ∀ i o, ops[i]? = some o → MarkStepIn F n P ops Q a0 J G R i o)
    (hdone : ∀ a w, a.defers = a0.defers → a.tmps.size = a0.tmps.size → (∀ t, ((List.range ops.size).all fun i => decide ((ops[i]?).bind (·.dst) ≠ some t)) = true → a.eval (.tmp t) = a0.eval (.tmp t)) → G w → (∀ i, i < ops.size → J i (slotOf ops a i) w) → Q .normal a w) :
    ∀ (fuel : Nat) (listed : Array Bool) (a : Act) (w : World), listed.toList.count false ≤ fuel → Mk a0 ops J G listed a w → wpAnyIn F n P .any ops Q fuel listed a w := by
  have fin : ∀ (listed : Array Bool) (a : Act) (w : World), Mk a0 ops J G listed a w → Region.ready .any ops listed = [] → Q .normal a w := fun listed a w h hr =>
    hdone a w h.defers h.size h.frame h.world fun i hi => h.marks i hi (all_listed hA h.len hr i i (Nat.le_refl _) hi)
  intro fuel
  induction fuel with
  | zero =>
    intro listed a w hc h
    have hr : Region.ready .any ops listed = [] := by
      refine List.eq_nil_iff_forall_not_mem.2 fun i hi => ?_
      have hlt : i < ops.size := by
        have := (List.mem_filter.1 hi).1
        simpa using this
      have := ((ready_iff (Array.getElem?_eq_getElem hlt)).1 hi).1
      have hil : i < listed.size := by rw [h.len]; exact hlt
      have hf : false ∈ listed.toList := by
        simp only [Array.getD, hil, dite_true] at this
        rw [← this]
        simp
      have := List.count_pos_iff.2 hf
      omega
    exact ⟨hr, fin _ _ _ h hr⟩
  | succ fuel ih =>
    intro listed a w hc h
    refine ⟨fin _ _ _ h, fun i hi => ?_⟩
    have hlt : i < ops.size := by
      have := (List.mem_filter.1 hi).1
      simpa using this
    have ho : ops[i]? = some ops[i] := Array.getElem?_eq_getElem hlt
    have hr := (ready_iff ho).1 hi
    have hil : i < listed.size := by rw [h.len]; exact hlt
    have hli : listed[i] = false := by simpa [Array.getD, hil] using hr.1
    unfold wpOpIn
    rw [ho]
    simp only
    have hgi : (ops[i]).guard = none := by
      have := Array.all_eq_true_iff_forall_mem.1 hg ops[i] (Array.getElem_mem hlt)
      simpa using this
    rw [if_pos (by simp [Region.wanted, hgi])]
    refine (Oper.wpIn_mono ?_ (hstep i _ ho a w h.frame h.world fun j hj => ?_))
    · rintro a' w' ⟨v, rfl, hv, hJ, hR⟩
      refine ih _ _ _ ?_ (h.step hmono hGR hd ho hv hJ hR)
      rw [Array.toList_setIfInBounds, List.count_set (by simpa using hil)]
      simp only [Array.getElem_toList, hli]
      have : 0 < listed.toList.count false := List.count_pos_iff.2 (by rw [← hli]; simp)
      simp only [show (false == false) = true from rfl, show (true == false) = false from rfl, if_true, Bool.false_eq_true, if_false]
      omega
    · obtain ⟨e, he, hb⟩ := Array.any_eq_true'.1 hj
      simp only [Bool.and_eq_true, decide_eq_true_eq] at hb
      obtain ⟨⟨hb1, rfl⟩, hb2⟩ := hb
      exact h.marks _ hb2 (hr.2 e he hb1)
def MarkAllIn (F : Fence) (n : Nat) (P : Program) (ops : Array Oper) (Q : Exit → Act → World → Prop) (a0 : Act) (J : Nat → Value → World → Prop) (G : World → Prop) (R : World → World → Prop) : List Oper → Nat → Prop
  | [], _ => True
  | o :: l, k => MarkStepIn F n P ops Q a0 J G R k o ∧ MarkAllIn F n P ops Q a0 J G R l (k + 1)
theorem MarkAllIn.get : ∀ {l : List Oper} {k : Nat}, MarkAllIn F n P ops Q a0 J G R l k → ∀ i o, l[i]? = some o → MarkStepIn F n P ops Q a0 J G R (k + i) o
  | [], _, _, i, o, h => by simp at h
  | x :: l, k, h, 0, o, ho => by
    simp only [List.getElem?_cons_zero, Option.some.injEq] at ho
    subst ho
    exact h.1
  | x :: l, k, h, i + 1, o, ho => by
    have := MarkAllIn.get h.2 i o (by simpa using ho)
    rwa [show k + 1 + i = k + (i + 1) by omega] at this
theorem wpIn_region_marked {id : Nat} {w0 : World} (J : Nat → Value → World → Prop) (G : World → Prop) (R : World → World → Prop) (hm : P.follows .mixedOrders = true) (hmono : ∀ i v w w', R w w' → J i v w → J i v w') (hGR : ∀ w w', G w → R w w' → G w') (hd : dstsOk ops a0.tmps.size = true) (hg : noGuard ops = true) (hA : afterOk ops = true)
    (hG0 : G w0.drew) (hstep : MarkAllIn F n P ops Q a0 J G R ops.toList 0)
    (hdone : ∀ a w, a.defers = a0.defers → a.tmps.size = a0.tmps.size → (∀ t, ((List.range ops.size).all fun i => decide ((ops[i]?).bind (·.dst) ≠ some t)) = true → a.eval (.tmp t) = a0.eval (.tmp t)) → G w → (∀ i, i < ops.size → J i (slotOf ops a i) w) → Q .normal a w) :
    (Code.region id ops true).wpIn F n P Q a0 w0 := by
  refine wpIn_region_any hm (wpAnyIn_marks hmono hGR hd hg hA (fun i o ho => ?_) hdone _ _ _ _ ?_ ⟨by simp, rfl, rfl, fun t _ => rfl, fun i hi h => ?_, hG0⟩)
  · have := MarkAllIn.get hstep i o (by simpa using ho)
    rwa [Nat.zero_add] at this
  · simp
  · simp [Array.getD, hi] at h
end Go.Proofs.YtmpladnglfiejaaGreatDoor
end

section
/- A region that draws its order, with guards: each slot's value known ahead, a fact of the world behind each operation. -/
namespace Go.Proofs.YtmpladnglfiejaaGreatDoor
open Go.RowKit
set_option maxRecDepth 100000
set_option linter.unusedVariables false
set_option linter.unusedSimpArgs false
section
variable {P : Program} {ops : Array Oper} {Q : Exit → Act → World → Prop} {a0 : Act} {VS : Nat → Value} {G : World → Prop} {M : Nat → World → Prop} {R : World → World → Prop}
def notDst (ops : Array Oper) (t : Nat) : Bool := (List.range ops.size).all fun i => decide ((ops[i]?).bind (·.dst) ≠ some t)
def depOn (ops : Array Oper) (o : Oper) (j : Nat) : Bool := o.after.any fun e => Region.binds .any e && decide (e.on = j) && decide (j < ops.size)
/-- What one operation owes: its guard is decided by a value that is known; it is passed over, or it yields the value. -/
def RStep (P : Program) (ops : Array Oper) (Q : Exit → Act → World → Prop) (a0 : Act) (VS : Nat → Value) (M : Nat → World → Prop) (G : World → Prop) (R : World → World → Prop) (i : Nat) (o : Oper) : Prop :=
  (o.dst = none → VS i = undef) ∧
  ((∃ j b, o.guard = some (j, b) ∧ depOn ops o j = true ∧ VS j ≠ .bool b ∧ VS i = undef ∧ ∀ w, M i w) ∨
   ((o.guard = none ∨ ∃ j b, o.guard = some (j, b) ∧ depOn ops o j = true ∧ VS j = .bool b) ∧
    ∀ a w, (∀ t, notDst ops t = true → a.eval (.tmp t) = a0.eval (.tmp t)) → (∀ j, depOn ops o j = true → slotOf ops a j = VS j) → G w →
      o.wp P a w (fun a' w' => a' = a.put o.dst (VS i) ∧ M i w' ∧ R w w') Q))
theorem yielded_slot (ops : Array Oper) (a : Act) (j : Nat) : yielded ops a.tmps j = match slotOf ops a j with
    | .bool b => some b
    | _ => none := by
  unfold yielded slotOf
  cases h : (ops[j]?).bind (·.dst) with
  | none => simp [undef]
  | some d =>
    simp only [Option.bind_some, Act.eval, Array.getD_eq_getD_getElem?]
    cases h2 : a.tmps[d]? with
    | none => simp [undef]
    | some v => cases v <;> simp
theorem wanted_vs {o : Oper} {a : Act} {j : Nat} {b : Bool} (hg : o.guard = some (j, b)) (hs : slotOf ops a j = VS j) : Region.wanted o (yielded ops a.tmps) = true ↔ VS j = .bool b := by
  unfold Region.wanted
  rw [hg]
  simp only [yielded_slot, hs]
  constructor
  · intro h
    split at h
    · rename_i c hc
      rw [hc]
      simp at h
      rw [h]
    · simp at h
  · intro h
    rw [h]
    simp
theorem wpAny_facts (hRr : ∀ w, R w w) (hGB : ∀ w w', G w → R w w' → G w') (hMR : ∀ i w w', M i w → R w w' → M i w') (hd : dstsOk ops a0.tmps.size = true) (hA : afterOk ops = true)
    (hstep : ∀ i o, ops[i]? = some o → RStep P ops Q a0 VS M G R i o)
    (hdone : ∀ a w, a.defers = a0.defers → a.tmps.size = a0.tmps.size → (∀ t, notDst ops t = true → a.eval (.tmp t) = a0.eval (.tmp t)) → G w → (∀ i, i < ops.size → slotOf ops a i = VS i ∧ M i w) → Q .normal a w) :
    ∀ (fuel : Nat) (listed : Array Bool) (a : Act) (w : World), listed.toList.count false ≤ fuel → Mk a0 ops (fun i v w => v = VS i ∧ M i w) G listed a w → wpAny P .any ops Q fuel listed a w := by
  have hmono : ∀ i v (w w' : World), R w w' → v = VS i ∧ M i w → v = VS i ∧ M i w' := fun i _ w w' hR h => ⟨h.1, hMR i w w' h.2 hR⟩
  have fin : ∀ (listed : Array Bool) (a : Act) (w : World), Mk a0 ops (fun i v w => v = VS i ∧ M i w) G listed a w → Region.ready .any ops listed = [] → Q .normal a w := fun listed a w h hr =>
    hdone a w h.defers h.size h.frame h.world fun i hi => h.marks i hi (all_listed hA h.len hr i i (Nat.le_refl _) hi)
  intro fuel
  induction fuel with
  | zero =>
    intro listed a w hc h
    have hr : Region.ready .any ops listed = [] := by
      refine List.eq_nil_iff_forall_not_mem.2 fun i hi => ?_
      have hlt : i < ops.size := by
        have := (List.mem_filter.1 hi).1
        simpa using this
      have := ((ready_iff (Array.getElem?_eq_getElem hlt)).1 hi).1
      have hil : i < listed.size := by rw [h.len]; exact hlt
      have hf : false ∈ listed.toList := by
        simp only [Array.getD, hil, dite_true] at this
        rw [← this]
        simp
      have := List.count_pos_iff.2 hf
      omega
    exact ⟨hr, fin _ _ _ h hr⟩
  | succ fuel ih =>
    intro listed a w hc h
    refine ⟨fin _ _ _ h, fun i hi => ?_⟩
    have hlt : i < ops.size := by
      have := (List.mem_filter.1 hi).1
      simpa using this
    have ho : ops[i]? = some ops[i] := Array.getElem?_eq_getElem hlt
    have hr := (ready_iff ho).1 hi
    have hil : i < listed.size := by rw [h.len]; exact hlt
    have hli : listed[i] = false := by simpa [Array.getD, hil] using hr.1
    have hcnt : (listed.setIfInBounds i true).toList.count false ≤ fuel := by
      rw [Array.toList_setIfInBounds, List.count_set (by simpa using hil)]
      simp only [Array.getElem_toList, hli]
      have : 0 < listed.toList.count false := List.count_pos_iff.2 (by rw [← hli]; simp)
      simp only [show (false == false) = true from rfl, show (true == false) = false from rfl, if_true, Bool.false_eq_true, if_false]
      omega
    have hdep : ∀ j, depOn ops ops[i] j = true → slotOf ops a j = VS j := fun j hj => by
      obtain ⟨e, he, hb⟩ := Array.any_eq_true'.1 hj
      simp only [Bool.and_eq_true, decide_eq_true_eq] at hb
      obtain ⟨⟨hb1, rfl⟩, hb2⟩ := hb
      exact (h.marks _ hb2 (hr.2 e he hb1)).1
    obtain ⟨hn, hs⟩ := hstep i _ ho
    unfold wpOp
    rw [ho]
    simp only
    rcases hs with ⟨j, b, hg, hj, hv, hu, hMi⟩ | ⟨hg, hs⟩
    · rw [if_neg (fun hw => hv ((wanted_vs hg (hdep j hj)).1 hw))]
      exact ih _ _ _ hcnt (h.step hmono hGB hd ho (fun _ => rfl) ⟨hu.symm, hMi w⟩ (hRr w))
    · rw [if_pos (by
        rcases hg with hg | ⟨j, b, hg, hj, hv⟩
        · simp [Region.wanted, hg]
        · exact (wanted_vs hg (hdep j hj)).2 hv)]
      refine .inl (Oper.wp_mono ?_ (hs a w h.frame hdep h.world))
      rintro a' w' ⟨rfl, hM, hB⟩
      exact ih _ _ _ hcnt (h.step hmono hGB hd ho hn ⟨rfl, hM⟩ hB)
def RAll (P : Program) (ops : Array Oper) (Q : Exit → Act → World → Prop) (a0 : Act) (VS : Nat → Value) (M : Nat → World → Prop) (G : World → Prop) (R : World → World → Prop) : List Oper → Nat → Prop
  | [], _ => True
  | o :: l, k => RStep P ops Q a0 VS M G R k o ∧ RAll P ops Q a0 VS M G R l (k + 1)
theorem RAll.get : ∀ {l : List Oper} {k : Nat}, RAll P ops Q a0 VS M G R l k → ∀ i o, l[i]? = some o → RStep P ops Q a0 VS M G R (k + i) o
  | [], _, _, i, o, h => by simp at h
  | x :: l, k, h, 0, o, ho => by
    simp only [List.getElem?_cons_zero, Option.some.injEq] at ho
    subst ho
    exact h.1
  | x :: l, k, h, i + 1, o, ho => by
    have := RAll.get h.2 i o (by simpa using ho)
    rwa [show k + 1 + i = k + (i + 1) by omega] at this
theorem wp_region_facts {id : Nat} {w0 : World} (VS : Nat → Value) (M : Nat → World → Prop) (G : World → Prop) (R : World → World → Prop) (hm : P.follows .mixedOrders = true) (hRr : ∀ w, R w w) (hGB : ∀ w w', G w → R w w' → G w') (hMR : ∀ i w w', M i w → R w w' → M i w') (hd : dstsOk ops a0.tmps.size = true) (hA : afterOk ops = true)
    (hG0 : G w0.drew) (hstep : RAll P ops Q a0 VS M G R ops.toList 0)
    (hdone : ∀ a w, a.defers = a0.defers → a.tmps.size = a0.tmps.size → (∀ t, notDst ops t = true → a.eval (.tmp t) = a0.eval (.tmp t)) → G w → (∀ i, i < ops.size → slotOf ops a i = VS i ∧ M i w) → Q .normal a w) :
    (Code.region id ops true).wp P Q a0 w0 := by
  refine wp_region_any hm (wpAny_facts hRr hGB hMR hd hA (fun i o ho => ?_) hdone _ _ _ _ ?_ ⟨by simp, rfl, rfl, fun t _ => rfl, fun i hi h => ?_, hG0⟩)
  · have := RAll.get hstep i o (by simpa using ho)
    rwa [Nat.zero_add] at this
  · simp
  · simp [Array.getD, hi] at h

variable {o : Oper} {i : Nat}
theorem RStep.run (hd : o.dst ≠ none) (hg : o.guard = none)
    (h : ∀ a w, (∀ t, notDst ops t = true → a.eval (.tmp t) = a0.eval (.tmp t)) → (∀ j, depOn ops o j = true → slotOf ops a j = VS j) → G w → o.wp P a w (fun a' w' => a' = a.put o.dst (VS i) ∧ M i w' ∧ R w w') Q) : RStep P ops Q a0 VS M G R i o :=
  ⟨fun e => absurd e hd, .inr ⟨.inl hg, h⟩⟩
theorem RStep.on (j : Nat) (b c : Bool) (hd : o.dst ≠ none) (hg : o.guard = some (j, c)) (hj : depOn ops o j = true) (hv : VS j = .bool b) (hu : b ≠ c → VS i = undef ∧ ∀ w, M i w)
    (h : b = c → ∀ a w, (∀ t, notDst ops t = true → a.eval (.tmp t) = a0.eval (.tmp t)) → (∀ j, depOn ops o j = true → slotOf ops a j = VS j) → G w → o.wp P a w (fun a' w' => a' = a.put o.dst (VS i) ∧ M i w' ∧ R w w') Q) : RStep P ops Q a0 VS M G R i o := by
  by_cases hbc : b = c
  · exact ⟨fun e => absurd e hd, .inr ⟨.inr ⟨j, c, hg, hj, by rw [hv, hbc]⟩, h hbc⟩⟩
  · exact ⟨fun _ => (hu hbc).1, .inl ⟨j, c, hg, hj, by rw [hv]; exact fun e => hbc (by injection e), hu hbc⟩⟩
variable {a : Act} {w w' : World} {v : Value} {Mi : World → Prop}
abbrev RK (o : Oper) (a : Act) (w : World) (v : Value) (Mi : World → Prop) (R : World → World → Prop) : Act → World → Prop := fun a' w' => a' = a.put o.dst v ∧ Mi w' ∧ R w w'
theorem F_val (hrun : (execOp a.eval o).run P w = .ok (.value v) w) (hM : Mi w) (hR : R w w) : o.wp P a w (RK o a w v Mi R) Q := by
  unfold Oper.wp
  rw [hrun, Oper.upon_value]
  exact ⟨rfl, hM, hR⟩
theorem F_move {x : Operand} (ho : o.op = .move x) (hx : a.eval x = v) (hM : Mi w) (hR : R w w) : o.wp P a w (RK o a w v Mi R) Q := F_val (by simp [execOp, ho, hx]) hM hR
theorem F_assign {x : Operand} (ho : o.op = .assign x) (hx : a.eval x = v) (hM : Mi w) (hR : R w w) : o.wp P a w (RK o a w v Mi R) Q := F_val (by simp [execOp, ho, hx]) hM hR
theorem F_load {t : TypeId} {x : Operand} {ad : Addr} (ho : o.op = .load t x) (hx : a.eval x = .pointer (some ad)) (hl : (loadVar t ad).run P w = .ok v w) (hM : Mi w) (hR : R w w) : o.wp P a w (RK o a w v Mi R) Q :=
  F_val (by simp [execOp, ho, hx, Instr.loadAt, Instr.sureAddr, hl]) hM hR
theorem F_call {f : FuncId} {fn : Func} {c : Code} {xs : Array Operand} {ts : Array TypeId} {args : Array Value} {S : Ending → World → Prop} (ho : o.op = .call { callee := .value (.func f), args := xs, argTypes := ts })
    (hf : P.funcs[f]? = some fn) (hb : fn.body = some c) (hnm : fn.name ≠ "runtime.NumGoroutine") (ha : xs.map a.eval = args) (hc : Calls P f args w S) (h : ∀ e w'', S e w'' → e = .returned v ∧ Mi w'' ∧ R w w'') : o.wp P a w (RK o a w v Mi R) Q := by
  have hrun : (execOp a.eval o).run P w = .ok (.enter f args) w := by
    simp [execOp, ho, resolve, invoke, Deferred.ofValue, callFunc, hf, hb, hnm, ha, Act.eval]
  unfold Oper.wp
  rw [hrun, Oper.upon_enter]
  refine hc.mono fun e w'' hR => ?_
  obtain ⟨rfl, hM, hR⟩ := h e w'' hR
  exact ⟨rfl, hM, hR⟩
theorem F_pick {c x y : Operand} (ho : o.op = .pick c x y) {b : Bool} (hc : a.eval c = .bool b) (hx : (if b then a.eval x else a.eval y) = v) (hM : Mi w) (hR : R w w) : o.wp P a w (RK o a w v Mi R) Q := by
  refine F_val ?_ hM hR
  cases b <;> simp only [if_true, Bool.false_eq_true, if_false] at hx <;> simp only [execOp, ho, hc, hx, Sem.run_bind, Sem.run_pure, asBool, Result.andThen_ok] <;> rfl
end
end Go.Proofs.YtmpladnglfiejaaGreatDoor
end

section
/- The frame behind a drawn region whose slots' values are known: written out. -/
namespace Go.Proofs.YtmpladnglfiejaaGreatDoor
open Go.RowKit
set_option maxRecDepth 100000
set_option linter.unusedVariables false
set_option linter.unusedSimpArgs false
/-- The frame with the values laid into their slots. -/
def layAll (ds : List (Option Tmp)) (vs : List Value) (b : Act) : Act := (ds.zip vs).foldl (fun b p => b.put p.1 p.2) b
theorem put_keeps (b : Act) (d : Option Tmp) (v : Value) : (b.put d v).defers = b.defers ∧ (b.put d v).tmps.size = b.tmps.size := by
  cases d with
  | none => exact ⟨rfl, rfl⟩
  | some d => exact ⟨rfl, by simp [Act.put]⟩
theorem fold_keeps : ∀ (l : List (Option Tmp × Value)) (b : Act), (l.foldl (fun b p => b.put p.1 p.2) b).defers = b.defers ∧ (l.foldl (fun b p => b.put p.1 p.2) b).tmps.size = b.tmps.size
  | [], b => ⟨rfl, rfl⟩
  | p :: l, b => by
    rw [List.foldl_cons]
    have h := fold_keeps l (b.put p.1 p.2)
    have k := put_keeps b p.1 p.2
    exact ⟨h.1.trans k.1, h.2.trans k.2⟩
theorem fold_other : ∀ (l : List (Option Tmp × Value)) (b : Act) (t : Nat), (∀ p ∈ l, p.1 ≠ some t) → (l.foldl (fun b p => b.put p.1 p.2) b).eval (.tmp t) = b.eval (.tmp t)
  | [], b, t, _ => rfl
  | p :: l, b, t, h => by
    rw [List.foldl_cons, fold_other l _ t fun q hq => h q (by simp [hq])]
    cases hp : p.1 with
    | none => rfl
    | some d => exact Act.eval_put_ne b d t p.2 (fun e => h p (by simp) (by rw [hp, e]))
theorem fold_at : ∀ (l : List (Option Tmp × Value)) (b : Act) (t : Nat) (v : Value), t < b.tmps.size → (∀ p ∈ l, p.1 = some t → p.2 = v) → (∃ p ∈ l, p.1 = some t) → (l.foldl (fun b p => b.put p.1 p.2) b).eval (.tmp t) = v
  | [], b, t, v, _, _, h => by obtain ⟨p, hp, _⟩ := h; cases hp
  | p :: l, b, t, v, ht, hv, h => by
    rw [List.foldl_cons]
    by_cases hl : ∃ q ∈ l, q.1 = some t
    · exact fold_at l _ t v (by rw [(put_keeps b p.1 p.2).2]; exact ht) (fun q hq => hv q (by simp [hq])) hl
    · rw [fold_other l _ t fun q hq e => hl ⟨q, hq, e⟩]
      have hp : p.1 = some t := by
        obtain ⟨q, hq, e⟩ := h
        rcases List.mem_cons.1 hq with rfl | hq
        · exact e
        · exact absurd ⟨q, hq, e⟩ hl
      rw [hp, hv p (by simp) hp]
      exact Act.eval_put_same b t v ht
theorem act_ext {a b : Act} (hd : a.defers = b.defers) (hs : a.tmps.size = b.tmps.size) (h : ∀ t, t < b.tmps.size → a.eval (.tmp t) = b.eval (.tmp t)) : a = b := by
  obtain ⟨t, d⟩ := a
  obtain ⟨t', d'⟩ := b
  dsimp only at hd hs h
  subst hd
  congr 1
  apply Array.ext hs
  intro i h1 h2
  have := h i h2
  simpa [Act.eval, Array.getD, h1, h2] using this
/-- The frame behind the region. -/
theorem act_of_slots {ops : Array Oper} {a0 a : Act} (VS : Nat → Value) (hd : dstsOk ops a0.tmps.size = true) (hdef : a.defers = a0.defers) (hsz : a.tmps.size = a0.tmps.size)
    (hfr : ∀ t, notDst ops t = true → a.eval (.tmp t) = a0.eval (.tmp t)) (hs : ∀ i, i < ops.size → slotOf ops a i = VS i) :
    a = layAll (ops.toList.map (·.dst)) ((List.range ops.size).map VS) a0 := by
  have hk := fold_keeps ((ops.toList.map (·.dst)).zip ((List.range ops.size).map VS)) a0
  have key : ∀ i, i < ops.size → ((ops.toList.map (·.dst)).zip ((List.range ops.size).map VS))[i]? = some ((ops[i]?).bind (·.dst), VS i) := fun i hi => by
    rw [List.getElem?_zip_eq_some]
    refine ⟨?_, ?_⟩
    · rw [List.getElem?_map]
      simp [hi]
    · simp [hi]
  have mem : ∀ p ∈ (ops.toList.map (·.dst)).zip ((List.range ops.size).map VS), ∃ i, i < ops.size ∧ p = ((ops[i]?).bind (·.dst), VS i) := fun p hp => by
    obtain ⟨i, hi⟩ := List.mem_iff_getElem?.1 hp
    have hlt : i < ops.size := by
      have := (List.getElem?_eq_some_iff.1 hi).1
      simp at this
      exact this
    rw [key i hlt] at hi
    exact ⟨i, hlt, by injection hi with hi; exact hi.symm⟩
  refine act_ext (hdef.trans hk.1.symm) (hsz.trans hk.2.symm) fun t ht => ?_
  have ht0 : t < a0.tmps.size := by rw [← hk.2]; exact ht
  by_cases hn : notDst ops t = true
  · rw [hfr t hn]
    refine (fold_other _ _ t fun p hp e => ?_).symm
    obtain ⟨i, hi, rfl⟩ := mem p hp
    unfold notDst at hn
    have := List.all_eq_true.1 hn i (by simpa using hi)
    exact of_decide_eq_true this e
  · obtain ⟨i, hi, hie⟩ : ∃ i, i < ops.size ∧ (ops[i]?).bind (·.dst) = some t := by
      unfold notDst at hn
      rw [Bool.not_eq_true, List.all_eq_false] at hn
      obtain ⟨i, hi, h⟩ := hn
      exact ⟨i, by simpa using hi, by simpa using h⟩
    have hsl := hs i hi
    unfold slotOf at hsl
    rw [hie] at hsl
    dsimp only at hsl
    rw [hsl]
    refine (fold_at _ _ t (VS i) ht0 (fun p hp e => ?_) ⟨_, List.mem_iff_getElem?.2 ⟨i, key i hi⟩, hie⟩).symm
    obtain ⟨j, hj, rfl⟩ := mem p hp
    dsimp only at e
    have h1 := List.all_eq_true.1 hd i (by simpa using hi)
    rw [hie] at h1
    simp only [Bool.and_eq_true, List.all_eq_true, Bool.or_eq_true, decide_eq_true_eq] at h1
    rcases h1.2 j (by simpa using hj) with h2 | h2
    · rw [h2]
    · exact absurd e h2
theorem act_of_some {ops : Array Oper} {a0 a : Act} (hd : dstsOk ops a0.tmps.size = true) (hdef : a.defers = a0.defers) (hsz : a.tmps.size = a0.tmps.size)
    (hfr : ∀ t, notDst ops t = true → a.eval (.tmp t) = a0.eval (.tmp t)) : ∃ vs : Nat → Value, (∀ i, slotOf ops a i = vs i) ∧ a = layAll (ops.toList.map (·.dst)) ((List.range ops.size).map vs) a0 :=
  ⟨fun i => slotOf ops a i, fun _ => rfl, act_of_slots _ hd hdef hsz hfr fun _ _ => rfl⟩
end Go.Proofs.YtmpladnglfiejaaGreatDoor
end

section
/- A region that draws its order, by marks: one operation turns the world (and what the marks say), the last one ends it. -/
namespace Go.Proofs.YtmpladnglfiejaaGreatDoor
open Go.RowKit
set_option maxRecDepth 100000
set_option linter.unusedVariables false
set_option linter.unusedSimpArgs false
variable {P : Program} {ops : Array Oper} {Q : Exit → Act → World → Prop} {a0 : Act} {J J' : Nat → Value → World → Prop} {G G' : World → Prop}
theorem Mk.step2 {listed : Array Bool} {a : Act} {w w' : World} {i : Nat} {o : Oper} {v : Value} (hT : ∀ j u, J j u w → J' j u w') (hG' : G' w') (hd : dstsOk ops a0.tmps.size = true)
    (h : Mk a0 ops J G listed a w) (ho : ops[i]? = some o) (hv : o.dst = none → v = undef) (hJ : J' i v w') : Mk a0 ops J' G' (listed.setIfInBounds i true) (a.put o.dst v) w' := by
  have hi : i < ops.size := (Array.getElem?_eq_some_iff.1 ho).1
  have hdi := List.all_eq_true.1 hd i (by simpa using hi)
  rw [ho] at hdi
  simp only [Option.bind_some] at hdi
  have hlt : ∀ d, o.dst = some d → d < a.tmps.size := fun d e => by
    rw [e] at hdi
    simp only [Bool.and_eq_true, decide_eq_true_eq] at hdi
    rw [h.size]; exact hdi.1
  have hne : ∀ j, j < ops.size → j ≠ i → ∀ d, o.dst = some d → (ops[j]?).bind (·.dst) ≠ some d := fun j hj hji d e => by
    rw [e] at hdi
    simp only [Bool.and_eq_true, decide_eq_true_eq, List.all_eq_true, List.mem_range, Bool.or_eq_true] at hdi
    exact (hdi.2 j hj).resolve_left hji
  refine ⟨by simpa using h.len, by rw [Act.size_put, h.size], by rw [Act.defers_put', h.defers], fun t ht => ?_, fun j hj hlj => ?_, hG'⟩
  · rw [← h.frame t ht]
    cases e : o.dst with
    | none => rfl
    | some d =>
      have := List.all_eq_true.1 ht i (by simpa using hi)
      rw [ho] at this
      simp only [Option.bind_some, e, decide_eq_true_eq] at this
      exact Act.eval_put_ne a d t v (fun e' => this (by rw [e']))
  · have hgd : ∀ (l : Array Bool), (l.getD j false = true) = ((l[j]?.getD false) = true) := fun l => by rw [Array.getD_eq_getD_getElem?]
    by_cases hji : j = i
    · subst hji
      rw [slot_put_same ho hlt hv]
      exact hJ
    · rw [slot_put_ne (hne j hj hji)]
      have hl2 : listed.getD j false = true := by
        rw [hgd] at hlj ⊢
        rwa [Array.getElem?_setIfInBounds_ne (i := i) (j := j) (fun e => hji e.symm)] at hlj
      exact hT j _ (h.marks j hj hl2)


def PhStep (P : Program) (ops : Array Oper) (Q : Exit → Act → World → Prop) (a0 : Act) (JJ : Bool → Nat → Value → World → Prop) (G : Bool → World → Prop) (b b' : Bool) (i : Nat) (o : Oper) : Prop :=
  ∀ a w, (∀ t, notDst ops t = true → a.eval (.tmp t) = a0.eval (.tmp t)) → G b w → (∀ j, depOn ops o j = true → JJ b j (slotOf ops a j) w) →
    o.wp P a w (fun a' w' => ∃ v, a' = a.put o.dst v ∧ (o.dst = none → v = undef) ∧ JJ b' i v w' ∧ G b' w' ∧ ∀ j u, JJ b j u w → JJ b' j u w') Q
theorem wpAny_phase {JJ : Bool → Nat → Value → World → Prop} {GG : Bool → World → Prop} {m i1 : Nat} (hd : dstsOk ops a0.tmps.size = true) (hg : noGuard ops = true) (hA : afterOk ops = true) (hL : lastOk ops m = true) (hi1 : i1 < m)
    (hstep : ∀ b i o, i < m → i ≠ i1 → ops[i]? = some o → PhStep P ops Q a0 JJ GG b b i o)
    (hone : ∀ o, ops[i1]? = some o → PhStep P ops Q a0 JJ GG false true i1 o)
    (hlast : ∀ o, ops[m]? = some o → ∀ a w, a.defers = a0.defers → a.tmps.size = a0.tmps.size → (∀ t, notDst ops t = true → a.eval (.tmp t) = a0.eval (.tmp t)) → GG true w → (∀ i, i < m → JJ true i (slotOf ops a i) w) →
      o.wp P a w (fun a' w' => Q .normal a' w') Q) :
    ∀ (fuel : Nat) (listed : Array Bool) (a : Act) (w : World), listed.toList.count false ≤ fuel → listed.getD m true = false → Mk a0 ops (JJ (listed.getD i1 false)) (GG (listed.getD i1 false)) listed a w → wpAny P .any ops Q fuel listed a w := by
  simp only [lastOk, Bool.and_eq_true, decide_eq_true_eq] at hL
  obtain ⟨hm, hL⟩ := hL
  have hnr : ∀ (listed : Array Bool), listed.size = ops.size → listed.getD m true = false → Region.ready .any ops listed ≠ [] := fun listed hlen hu hr => by
    have h1 := all_listed hA hlen hr m m (Nat.le_refl _) (by omega)
    have hil : m < listed.size := by rw [hlen]; omega
    simp only [Array.getD, hil, dite_true] at hu h1
    rw [hu] at h1
    cases h1
  intro fuel
  induction fuel with
  | zero =>
    intro listed a w hc hu h
    have hil : m < listed.size := by rw [h.len]; omega
    have hf : false ∈ listed.toList := by
      simp only [Array.getD, hil, dite_true] at hu
      rw [← hu]
      simp
    have := List.count_pos_iff.2 hf
    omega
  | succ fuel ih =>
    intro listed a w hc hu h
    refine ⟨fun hr => absurd hr (hnr listed h.len hu), fun i hi => ?_⟩
    have hlt : i < ops.size := by
      have := (List.mem_filter.1 hi).1
      simpa using this
    have ho : ops[i]? = some ops[i] := Array.getElem?_eq_getElem hlt
    have hr := (ready_iff ho).1 hi
    have hil : i < listed.size := by rw [h.len]; exact hlt
    have hli : listed[i] = false := by simpa [Array.getD, hil] using hr.1
    unfold wpOp
    rw [ho]
    simp only
    have hgi : (ops[i]).guard = none := by
      have := Array.all_eq_true_iff_forall_mem.1 hg ops[i] (Array.getElem_mem hlt)
      simpa using this
    rw [if_pos (by simp [Region.wanted, hgi])]
    by_cases him : i = m
    · subst him
      have hall : ∀ j, j < i → listed.getD j false = true := fun j hj => by
        rw [ho] at hL
        have := List.all_eq_true.1 hL j (by simpa using hj)
        obtain ⟨e, he, hb⟩ := Array.any_eq_true'.1 this
        simp only [Bool.and_eq_true, decide_eq_true_eq] at hb
        obtain ⟨hb1, rfl⟩ := hb
        exact hr.2 e he hb1
      have hb1 : listed.getD i1 false = true := hall i1 hi1
      rw [hb1] at h
      refine .inl (Oper.wp_mono ?_ (hlast _ ho a w h.defers h.size h.frame h.world fun j hj => h.marks j (by omega) (hall j hj)))
      intro a' w' hq
      refine wpAny_done (ready_all (fun j hj => ?_) (by simpa using h.len)) hq _
      by_cases hji : j = i
      · subst hji
        simp [Array.getD, hil]
      · have := hall j (by omega)
        rw [Array.getD_eq_getD_getElem?] at this ⊢
        rwa [Array.getElem?_setIfInBounds_ne (fun e => hji e.symm)]
    · have hdeps : ∀ j, depOn ops ops[i] j = true → JJ (listed.getD i1 false) j (slotOf ops a j) w := fun j hj => by
        obtain ⟨e, he, hb⟩ := Array.any_eq_true'.1 hj
        simp only [Bool.and_eq_true, decide_eq_true_eq] at hb
        obtain ⟨⟨hb1, rfl⟩, hb2⟩ := hb
        exact h.marks _ hb2 (hr.2 e he hb1)
      have hcnt : (listed.setIfInBounds i true).toList.count false ≤ fuel := by
        rw [Array.toList_setIfInBounds, List.count_set (by simpa using hil)]
        simp only [Array.getElem_toList, hli]
        have : 0 < listed.toList.count false := List.count_pos_iff.2 (by rw [← hli]; simp)
        simp only [show (false == false) = true from rfl, show (true == false) = false from rfl, if_true, Bool.false_eq_true, if_false]
        omega
      have hum : (listed.setIfInBounds i true).getD m true = false := by
        rw [Array.getD_eq_getD_getElem?] at hu ⊢
        rwa [Array.getElem?_setIfInBounds_ne him]
      by_cases hi : i = i1
      · subst hi
        have hb0 : listed.getD i false = false := by simp [Array.getD, hil, hli]
        have hb1 : (listed.setIfInBounds i true).getD i false = true := by simp [Array.getD, hil]
        rw [hb0] at h hdeps
        refine .inl (Oper.wp_mono ?_ (hone _ ho a w h.frame h.world hdeps))
        rintro a' w' ⟨v, rfl, hv, hJ, hG, hT⟩
        refine ih _ _ _ hcnt hum ?_
        rw [hb1]
        exact h.step2 hT hG hd ho hv hJ
      · have hb1 : (listed.setIfInBounds i true).getD i1 false = listed.getD i1 false := by
          rw [Array.getD_eq_getD_getElem?, Array.getD_eq_getD_getElem?, Array.getElem?_setIfInBounds_ne hi]
        refine .inl (Oper.wp_mono ?_ (hstep _ i _ (by omega) hi ho a w h.frame h.world hdeps))
        rintro a' w' ⟨v, rfl, hv, hJ, hG, hT⟩
        refine ih _ _ _ hcnt hum ?_
        rw [hb1]
        exact h.step2 hT hG hd ho hv hJ
def PhAll (P : Program) (ops : Array Oper) (Q : Exit → Act → World → Prop) (a0 : Act) (JJ : Bool → Nat → Value → World → Prop) (G : Bool → World → Prop) (i1 : Nat) : List Oper → Nat → Prop
  | [], _ => True
  | o :: l, k => (if k = i1 then PhStep P ops Q a0 JJ G false true k o else ∀ b, PhStep P ops Q a0 JJ G b b k o) ∧ PhAll P ops Q a0 JJ G i1 l (k + 1)
theorem PhAll.get {JJ : Bool → Nat → Value → World → Prop} {GG : Bool → World → Prop} {i1 : Nat} : ∀ {l : List Oper} {k : Nat}, PhAll P ops Q a0 JJ GG i1 l k → ∀ i o, l[i]? = some o → (if k + i = i1 then PhStep P ops Q a0 JJ GG false true (k + i) o else ∀ b, PhStep P ops Q a0 JJ GG b b (k + i) o)
  | [], _, _, i, o, h => by simp at h
  | x :: l, k, h, 0, o, ho => by
    simp only [List.getElem?_cons_zero, Option.some.injEq] at ho
    subst ho
    exact h.1
  | x :: l, k, h, i + 1, o, ho => by
    have := PhAll.get h.2 i o (by simpa using ho)
    rwa [show k + 1 + i = k + (i + 1) by omega] at this
theorem wp_region_phase {id : Nat} {w0 : World} (m i1 : Nat) (JJ : Bool → Nat → Value → World → Prop) (GG : Bool → World → Prop) (hm : P.follows .mixedOrders = true) (hd : dstsOk ops a0.tmps.size = true) (hg : noGuard ops = true) (hA : afterOk ops = true) (hL : lastOk ops m = true) (hi1 : i1 < m)
    (hG0 : GG false w0.drew) (hstep : PhAll P ops Q a0 JJ GG i1 (ops.toList.take m) 0)
    (hlast : ∀ o, ops[m]? = some o → ∀ a w, a.defers = a0.defers → a.tmps.size = a0.tmps.size → (∀ t, notDst ops t = true → a.eval (.tmp t) = a0.eval (.tmp t)) → GG true w → (∀ i, i < m → JJ true i (slotOf ops a i) w) →
      o.wp P a w (fun a' w' => Q .normal a' w') Q) :
    (Code.region id ops true).wp P Q a0 w0 := by
  have hsz : ops.size = m + 1 := by
    simp only [lastOk, Bool.and_eq_true, decide_eq_true_eq] at hL
    exact hL.1
  have hb0 : (Array.replicate ops.size false).getD i1 false = false := by simp [Array.getD]
  refine wp_region_any hm (wpAny_phase (JJ := JJ) (GG := GG) (m := m) (i1 := i1) hd hg hA hL hi1 (fun b i o hi hne ho => ?_) (fun o ho => ?_) hlast _ _ _ _ ?_ ?_ ?_)
  · have := PhAll.get hstep i o (by rw [List.getElem?_take, if_pos hi]; simpa using ho)
    rw [Nat.zero_add, if_neg hne] at this
    exact this b
  · have := PhAll.get hstep i1 o (by rw [List.getElem?_take, if_pos hi1]; simpa using ho)
    rwa [Nat.zero_add, if_pos rfl] at this
  · simp
  · simp [Array.getD, hsz]
  · rw [hb0]
    exact ⟨by simp, rfl, rfl, fun t _ => rfl, fun i hi h => by simp [Array.getD, hi] at h, hG0⟩
end Go.Proofs.YtmpladnglfiejaaGreatDoor
end

section
/- A drawn region inside the fence: marks for the first operations, the two last ones in their order. -/
namespace Go.Proofs.YtmpladnglfiejaaGreatDoor
open Go.RowKit
set_option maxRecDepth 100000
set_option linter.unusedVariables false
set_option linter.unusedSimpArgs false
def reach (ops : Array Oper) : Nat → Nat → Nat → Bool
  | 0, _, _ => false
  | f + 1, i, j => match ops[i]? with
    | none => false
    | some o => o.after.any fun e => Region.binds .any e && (decide (e.on = j) || reach ops f e.on j)
def Closed (ops : Array Oper) (listed : Array Bool) : Prop := ∀ i o, ops[i]? = some o → listed.getD i false = true → ∀ e ∈ o.after, Region.binds .any e = true → listed.getD e.on false = true
theorem reach_listed {ops : Array Oper} {listed : Array Bool} (hc : Closed ops listed) : ∀ f i o j, ops[i]? = some o → (∀ e ∈ o.after, Region.binds .any e = true → listed.getD e.on false = true) → reach ops f i j = true → listed.getD j false = true
  | 0, i, o, j, ho, hd, hr => by cases hr
  | f + 1, i, o, j, ho, hd, hr => by
    rw [reach, ho] at hr
    obtain ⟨e, he, hb⟩ := Array.any_eq_true'.1 hr
    rw [Bool.and_eq_true, Bool.or_eq_true] at hb
    rcases hb.2 with h | h
    · rw [← of_decide_eq_true h]; exact hd e he hb.1
    · cases ho' : ops[e.on]? with
      | none => cases f with
        | zero => cases h
        | succ f => rw [reach, ho'] at h; cases h
      | some o' => exact reach_listed hc f e.on o' j ho' (hc e.on o' ho' (hd e he hb.1)) h
variable {P : Program} {ops : Array Oper} {Q : Exit → Act → World → Prop} {a0 : Act} {J : Nat → Value → World → Prop} {G : World → Prop} {R : World → World → Prop} {F : Fence} {n : Nat}
theorem getD_set_ne {listed : Array Bool} {i j : Nat} (h : j ≠ i) (d : Bool) : (listed.setIfInBounds i true).getD j d = listed.getD j d := by
  rw [Array.getD_eq_getD_getElem?, Array.getD_eq_getD_getElem?, Array.getElem?_setIfInBounds_ne (fun e => h e.symm)]
theorem getD_set_same {listed : Array Bool} {i : Nat} (h : i < listed.size) (d : Bool) : (listed.setIfInBounds i true).getD i d = true := by
  simp [Array.getD, h]
theorem closed_set {listed : Array Bool} {i : Nat} {o : Oper} (hc : Closed ops listed) (ho : ops[i]? = some o) (hl : i < listed.size) (hd : ∀ e ∈ o.after, Region.binds .any e = true → listed.getD e.on false = true) : Closed ops (listed.setIfInBounds i true) := by
  intro k o' ho' hk e he hb
  have up : listed.getD e.on false = true → (listed.setIfInBounds i true).getD e.on false = true := fun h => by
    by_cases he' : e.on = i
    · rw [he']; exact getD_set_same hl _
    · rw [getD_set_ne he']; exact h
  by_cases hki : k = i
  · subst hki
    rw [ho] at ho'
    injection ho' with ho'
    subst ho'
    exact up (hd e he hb)
  · rw [getD_set_ne hki] at hk
    exact up (hc k o' ho' hk e he hb)
theorem count_set {listed : Array Bool} {i fuel : Nat} (hil : i < listed.size) (hli : listed[i] = false) (hc : listed.toList.count false ≤ fuel + 1) : (listed.setIfInBounds i true).toList.count false ≤ fuel := by
  rw [Array.toList_setIfInBounds, List.count_set (by simpa using hil)]
  simp only [Array.getElem_toList, hli]
  have : 0 < listed.toList.count false := List.count_pos_iff.2 (by rw [← hli]; simp)
  simp only [show (false == false) = true from rfl, show (true == false) = false from rfl, if_true, Bool.false_eq_true, if_false]
  omega
theorem count_pos {L : Array Bool} {k : Nat} (hk : k < L.size) (h : L.getD k true = false) : 0 < L.toList.count false := by
  have hf : false ∈ L.toList := by
    simp only [Array.getD, hk, dite_true] at h
    rw [← h]
    simp
  exact List.count_pos_iff.2 hf
theorem wpAnyIn_tail {m : Nat} (hmono : ∀ i v w w', R w w' → J i v w → J i v w') (hGR : ∀ w w', G w → R w w' → G w') (hd : dstsOk ops a0.tmps.size = true) (hg : noGuard ops = true) (hA : afterOk ops = true)
    (hsz : ops.size = m + 2) (h1 : ∀ j, j < m → reach ops 40 m j = true) (h2 : ∀ j, j < m + 1 → reach ops 40 (m + 1) j = true)
    (hstep : ∀ i o, i < m → ops[i]? = some o → MarkStepIn F n P ops Q a0 J G R i o)
    (hlast : ∀ o1 o2, ops[m]? = some o1 → ops[m + 1]? = some o2 → ∀ a w, a.defers = a0.defers → a.tmps.size = a0.tmps.size → (∀ t, ((List.range ops.size).all fun i => decide ((ops[i]?).bind (·.dst) ≠ some t)) = true → a.eval (.tmp t) = a0.eval (.tmp t)) → G w → (∀ i, i < m → J i (slotOf ops a i) w) →
      o1.wpIn F n P a w (fun a' w' => o2.wpIn F n P a' w' (fun a'' w'' => Q .normal a'' w'') Q) Q) :
    ∀ (fuel : Nat) (listed : Array Bool) (a : Act) (w : World), listed.toList.count false ≤ fuel → listed.getD m true = false → listed.getD (m + 1) true = false → Closed ops listed → Mk a0 ops J G listed a w → wpAnyIn F n P .any ops Q fuel listed a w := by
  have gd : ∀ {listed : Array Bool} {j : Nat}, listed.size = ops.size → j < ops.size → ∀ d d', listed.getD j d = listed.getD j d' := fun {listed j} hl hj d d' => by
    have : j < listed.size := by omega
    simp [Array.getD, this]
  have hnr : ∀ (listed : Array Bool) (k : Nat), k < ops.size → listed.getD k true = false → listed.size = ops.size → Region.ready .any ops listed ≠ [] := fun listed k hk hu hl hr => by
    have h1 := all_listed hA hl hr k k (Nat.le_refl _) hk
    rw [gd hl hk false true, hu] at h1
    cases h1
  intro fuel
  induction fuel with
  | zero =>
    intro listed a w hc hu hu2 hcl h
    have hil : m < listed.size := by rw [h.len]; omega
    have hf : false ∈ listed.toList := by
      simp only [Array.getD, hil, dite_true] at hu
      rw [← hu]
      simp
    have := List.count_pos_iff.2 hf
    omega
  | succ fuel ih =>
    intro listed a w hc hu hu2 hcl h
    refine ⟨fun hr => absurd hr (hnr listed m (by omega) hu h.len), fun i hi => ?_⟩
    have hlt : i < ops.size := by
      have := (List.mem_filter.1 hi).1
      simpa using this
    have ho : ops[i]? = some ops[i] := Array.getElem?_eq_getElem hlt
    have hr := (ready_iff ho).1 hi
    have hil : i < listed.size := by rw [h.len]; exact hlt
    have hli : listed[i] = false := by simpa [Array.getD, hil] using hr.1
    have hgi : ∀ k (hk : k < ops.size), (ops[k]).guard = none := fun k hk => by
      have := Array.all_eq_true_iff_forall_mem.1 hg ops[k] (Array.getElem_mem hk)
      simpa using this
    have hcl' := closed_set hcl ho hil hr.2
    unfold wpOpIn
    rw [ho]
    simp only
    rw [if_pos (by simp [Region.wanted, hgi i hlt])]
    by_cases him : i = m
    · subst him
      have hall : ∀ j, j < i → listed.getD j false = true := fun j hj => reach_listed hcl 40 i _ j ho hr.2 (h1 j hj)
      have ho2 : ops[i + 1]? = some ops[i + 1] := Array.getElem?_eq_getElem (by omega)
      refine (Oper.wpIn_mono ?_ (hlast _ _ ho ho2 a w h.defers h.size h.frame h.world fun j hj => h.marks j (by omega) (hall j hj)))
      intro a' w' hq
      have hl' : (listed.setIfInBounds i true).size = ops.size := by simpa using h.len
      have hu2' : (listed.setIfInBounds i true).getD (i + 1) true = false := by rw [getD_set_ne (by omega)]; exact hu2
      have hcnt := count_set hil hli hc
      cases fuel with
      | zero =>
        exfalso
        have := count_pos (L := listed.setIfInBounds i true) (by omega) hu2'
        omega
      | succ fuel =>
        refine ⟨fun hr => absurd hr (hnr _ (i + 1) (by omega) hu2' hl'), fun k hk => ?_⟩
        have hklt : k < ops.size := by
          have := (List.mem_filter.1 hk).1
          simpa using this
        have hok : ops[k]? = some ops[k] := Array.getElem?_eq_getElem hklt
        have hkr := ((ready_iff hok).1 hk).1
        have hki : k = i + 1 := by
          by_cases h3 : k < i
          · rw [getD_set_ne (by omega), gd h.len hklt true false, hall k h3] at hkr
            cases hkr
          · by_cases h4 : k = i
            · subst h4
              rw [getD_set_same hil] at hkr
              cases hkr
            · omega
        subst hki
        unfold wpOpIn
        rw [hok]
        simp only
        rw [if_pos (by simp [Region.wanted, hgi (i + 1) hklt])]
        refine Oper.wpIn_mono ?_ hq
        intro a'' w'' hq2
        have hfin : Region.ready .any ops ((listed.setIfInBounds i true).setIfInBounds (i + 1) true) = [] := ready_all (fun j hj => by
          by_cases hj1 : j = i + 1
          · subst hj1; exact getD_set_same (by omega) _
          · rw [getD_set_ne hj1]
            by_cases hj2 : j = i
            · subst hj2; exact getD_set_same hil _
            · rw [getD_set_ne hj2]; exact hall j (by omega)) (by simpa using h.len)
        cases fuel with
        | zero => exact ⟨hfin, hq2⟩
        | succ fuel => exact ⟨fun _ => hq2, fun x hx => by rw [hfin] at hx; cases hx⟩
    · have him2 : i ≠ m + 1 := fun e => by
        subst e
        have := reach_listed hcl 40 (m + 1) _ m ho hr.2 (h2 m (by omega))
        rw [gd h.len (by omega) false true, hu] at this
        cases this
      refine (Oper.wpIn_mono ?_ (hstep i _ (by omega) ho a w h.frame h.world fun j hj => ?_))
      · rintro a' w' ⟨v, rfl, hv, hJ, hR⟩
        exact ih _ _ _ (count_set hil hli hc) (by rw [getD_set_ne (Ne.symm him)]; exact hu) (by rw [getD_set_ne (Ne.symm him2)]; exact hu2) hcl' (h.step hmono hGR hd ho hv hJ hR)
      · obtain ⟨e, he, hb⟩ := Array.any_eq_true'.1 hj
        simp only [Bool.and_eq_true, decide_eq_true_eq] at hb
        obtain ⟨⟨hb1, rfl⟩, hb2⟩ := hb
        exact h.marks _ hb2 (hr.2 e he hb1)
theorem wpIn_region_tail {id : Nat} {w0 : World} (m : Nat) (J : Nat → Value → World → Prop) (G : World → Prop) (R : World → World → Prop) (hm : P.follows .mixedOrders = true) (hmono : ∀ i v w w', R w w' → J i v w → J i v w') (hGR : ∀ w w', G w → R w w' → G w') (hd : dstsOk ops a0.tmps.size = true) (hg : noGuard ops = true) (hA : afterOk ops = true)
    (hsz : ops.size = m + 2) (h1 : ((List.range m).all fun j => reach ops 40 m j) = true) (h2 : ((List.range (m + 1)).all fun j => reach ops 40 (m + 1) j) = true)
    (hG0 : G w0.drew) (hstep : MarkAllIn F n P ops Q a0 J G R (ops.toList.take m) 0)
    (hlast : ∀ o1 o2, ops[m]? = some o1 → ops[m + 1]? = some o2 → ∀ a w, a.defers = a0.defers → a.tmps.size = a0.tmps.size → (∀ t, ((List.range ops.size).all fun i => decide ((ops[i]?).bind (·.dst) ≠ some t)) = true → a.eval (.tmp t) = a0.eval (.tmp t)) → G w → (∀ i, i < m → J i (slotOf ops a i) w) →
      o1.wpIn F n P a w (fun a' w' => o2.wpIn F n P a' w' (fun a'' w'' => Q .normal a'' w'') Q) Q) :
    (Code.region id ops true).wpIn F n P Q a0 w0 := by
  refine wpIn_region_any hm (wpAnyIn_tail hmono hGR hd hg hA hsz (fun j hj => List.all_eq_true.1 h1 j (by simpa using hj)) (fun j hj => List.all_eq_true.1 h2 j (by simpa using hj)) (fun i o hi ho => ?_) hlast _ _ _ _ ?_ ?_ ?_ (fun i o ho h => ?_) ⟨by simp, rfl, rfl, fun t _ => rfl, fun i hi h => ?_, hG0⟩)
  · have := MarkAllIn.get hstep i o (by rw [List.getElem?_take, if_pos hi]; simpa using ho)
    rwa [Nat.zero_add] at this
  · simp
  · simp [Array.getD, hsz]
  · simp [Array.getD, hsz]
  · have hi : i < ops.size := (Array.getElem?_eq_some_iff.1 ho).1
    simp [Array.getD, hi] at h
  · simp [Array.getD, hi] at h
/-- The call of a range's body: by its contract. -/
theorem wpIn_yield {P : Program} {o : Oper} {a : Act} {w : World} {K : Act → World → Prop} {Q : Exit → Act → World → Prop} {n l : Nat} {x y : Operand} {ts : Array TypeId} {v u : Value} (ho : o.op = .call { callee := .value x, args := #[y], argTypes := ts }) (hx : a.eval x = .func (.yield l) #[] #[]) (hy : a.eval y = v) (hn : 1 ≤ n)
    (h : YieldAt Fence.wide (n - 1) P l #[v] w fun e W' => e = .returned u ∧ K (a.put o.dst u) W') : o.wpIn Fence.wide n P a w K Q := by
  obtain ⟨fn, tmps, assign, body, hr, hR⟩ := h
  have hrun : (execOp a.eval o).run P w = .ok (.round l fn tmps assign body) w := by
    simp [execOp, ho, resolve, invoke, Deferred.ofValue, hx, hy, hr]
  unfold Oper.wpIn
  refine ⟨fun _ _ => trivial, ?_⟩
  rw [show o.semAt Fence.wide.round a.eval = execOp a.eval o from rfl, hrun, Oper.uponIn_round]
  refine ⟨fun _ => hn, hR.mono ?_⟩
  rintro e w'' ⟨rfl, hK⟩
  exact hK
end Go.Proofs.YtmpladnglfiejaaGreatDoor
end
