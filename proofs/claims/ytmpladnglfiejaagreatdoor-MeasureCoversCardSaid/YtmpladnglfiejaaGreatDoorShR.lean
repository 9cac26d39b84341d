/- A drawn region whose last operation waits for all others, some of them through others. -/
import Derived.Test.YtmpladnglfiejaaGreatDoorPB
namespace Go.Proofs.YtmpladnglfiejaaGreatDoor
open Go.RowKit
set_option maxRecDepth 100000
set_option linter.unusedVariables false
set_option linter.unusedSimpArgs false
variable {P : Program} {ops : Array Oper} {Q : Exit → Act → World → Prop} {a0 : Act} {J : Nat → Value → World → Prop} {G : World → Prop} {R : World → World → Prop}
theorem wpAny_reach {m : Nat} (hmono : ∀ i v w w', R w w' → J i v w → J i v w') (hGR : ∀ w w', G w → R w w' → G w') (hd : dstsOk ops a0.tmps.size = true) (hg : noGuard ops = true) (hA : afterOk ops = true) (hm : ops.size = m + 1) (hL : ∀ j, j < m → reach ops 40 m j = true)
    (hstep : ∀ i o, i < m → ops[i]? = some o → MarkStep P ops Q a0 J G R i o)
    (hlast : ∀ o, ops[m]? = some o → ∀ a w, a.defers = a0.defers → a.tmps.size = a0.tmps.size → (∀ t, ((List.range ops.size).all fun i => decide ((ops[i]?).bind (·.dst) ≠ some t)) = true → a.eval (.tmp t) = a0.eval (.tmp t)) → G w → (∀ i, i < m → J i (slotOf ops a i) w) →
      o.wp P a w (fun a' w' => Q .normal a' w') Q) :
    ∀ (fuel : Nat) (listed : Array Bool) (a : Act) (w : World), listed.toList.count false ≤ fuel → listed.getD m true = false → Closed ops listed → Mk a0 ops J G listed a w → wpAny P .any ops Q fuel listed a w := by
  have hnr : ∀ (listed : Array Bool) (a : Act) (w : World), listed.getD m true = false → Mk a0 ops J G listed a w → Region.ready .any ops listed ≠ [] := fun listed a w hu h hr => by
    have h1 := all_listed hA h.len hr m m (Nat.le_refl _) (by omega)
    have hil : m < listed.size := by rw [h.len]; omega
    simp only [Array.getD, hil, dite_true] at hu h1
    rw [hu] at h1
    cases h1
  intro fuel
  induction fuel with
  | zero =>
    intro listed a w hc hu hcl h
    have hil : m < listed.size := by rw [h.len]; omega
    have hf : false ∈ listed.toList := by
      simp only [Array.getD, hil, dite_true] at hu
      rw [← hu]
      simp
    have := List.count_pos_iff.2 hf
    omega
  | succ fuel ih =>
    intro listed a w hc hu hcl h
    refine ⟨fun hr => absurd hr (hnr listed a w hu h), fun i hi => ?_⟩
    have hlt : i < ops.size := by
      have := (List.mem_filter.1 hi).1
      simpa using this
    have ho : ops[i]? = some ops[i] := Array.getElem?_eq_getElem hlt
    have hr := (ready_iff ho).1 hi
    have hil : i < listed.size := by rw [h.len]; exact hlt
    have hli : listed[i] = false := by simpa [Array.getD, hil] using hr.1
    unfold wpOp
    rw [ho]
    simp only
    have hgi : (ops[i]).guard = none := by
      have := Array.all_eq_true_iff_forall_mem.1 hg ops[i] (Array.getElem_mem hlt)
      simpa using this
    rw [if_pos (by simp [Region.wanted, hgi])]
    by_cases him : i = m
    · subst him
      have hall : ∀ j, j < i → listed.getD j false = true := fun j hj => reach_listed hcl 40 i _ j ho hr.2 (hL j hj)
      refine .inl (Oper.wp_mono ?_ (hlast _ ho a w h.defers h.size h.frame h.world fun j hj => h.marks j (by omega) (hall j hj)))
      intro a' w' hq
      refine wpAny_done (ready_all (fun j hj => ?_) (by simpa using h.len)) hq _
      by_cases hji : j = i
      · subst hji
        simp [Array.getD, hil]
      · have := hall j (by omega)
        rw [Array.getD_eq_getD_getElem?] at this ⊢
        rwa [Array.getElem?_setIfInBounds_ne (fun e => hji e.symm)]
    · refine .inl (Oper.wp_mono ?_ (hstep i _ (by omega) ho a w h.frame h.world fun j hj => ?_))
      · rintro a' w' ⟨v, rfl, hv, hJ, hR⟩
        refine ih _ _ _ ?_ ?_ (closed_set hcl ho hil hr.2) (h.step hmono hGR hd ho hv hJ hR)
        · rw [Array.toList_setIfInBounds, List.count_set (by simpa using hil)]
          simp only [Array.getElem_toList, hli]
          have : 0 < listed.toList.count false := List.count_pos_iff.2 (by rw [← hli]; simp)
          simp only [show (false == false) = true from rfl, show (true == false) = false from rfl, if_true, Bool.false_eq_true, if_false]
          omega
        · rw [Array.getD_eq_getD_getElem?] at hu ⊢
          rwa [Array.getElem?_setIfInBounds_ne him]
      · obtain ⟨e, he, hb⟩ := Array.any_eq_true'.1 hj
        simp only [Bool.and_eq_true, decide_eq_true_eq] at hb
        obtain ⟨⟨hb1, rfl⟩, hb2⟩ := hb
        exact h.marks _ hb2 (hr.2 e he hb1)
theorem wp_region_reach {id : Nat} {w0 : World} (m : Nat) (J : Nat → Value → World → Prop) (G : World → Prop) (R : World → World → Prop) (hm : P.follows .mixedOrders = true) (hmono : ∀ i v w w', R w w' → J i v w → J i v w') (hGR : ∀ w w', G w → R w w' → G w') (hd : dstsOk ops a0.tmps.size = true) (hg : noGuard ops = true) (hA : afterOk ops = true) (hsz : ops.size = m + 1) (hL : ((List.range m).all fun j => reach ops 40 m j) = true)
    (hG0 : G w0.drew) (hstep : MarkAll P ops Q a0 J G R (ops.toList.take m) 0)
    (hlast : ∀ o, ops[m]? = some o → ∀ a w, a.defers = a0.defers → a.tmps.size = a0.tmps.size → (∀ t, ((List.range ops.size).all fun i => decide ((ops[i]?).bind (·.dst) ≠ some t)) = true → a.eval (.tmp t) = a0.eval (.tmp t)) → G w → (∀ i, i < m → J i (slotOf ops a i) w) →
      o.wp P a w (fun a' w' => Q .normal a' w') Q) :
    (Code.region id ops true).wp P Q a0 w0 := by
  refine wp_region_any hm (wpAny_reach hmono hGR hd hg hA hsz (fun j hj => List.all_eq_true.1 hL j (by simpa using hj)) (fun i o hi ho => ?_) hlast _ _ _ _ ?_ ?_ (fun i o ho h => ?_) ⟨by simp, rfl, rfl, fun t _ => rfl, fun i hi h => ?_, hG0⟩)
  · have := MarkAll.get hstep i o (by rw [List.getElem?_take, if_pos hi]; simpa using ho)
    rwa [Nat.zero_add] at this
  · simp
  · simp [Array.getD, hsz]
  · have hi : i < ops.size := (Array.getElem?_eq_some_iff.1 ho).1
    simp [Array.getD, hi] at h
  · simp [Array.getD, hi] at h
variable {J' : Nat → Value → World → Prop} {G' : World → Prop}
theorem Mk.step3 {listed : Array Bool} {a : Act} {w w' : World} {i : Nat} {o : Oper} {v : Value} (hT : ∀ j, J j (slotOf ops a j) w → J' j (slotOf ops a j) w') (hG' : G' w') (hd : dstsOk ops a0.tmps.size = true)
    (h : Mk a0 ops J G listed a w) (ho : ops[i]? = some o) (hv : o.dst = none → v = undef) (hJ : J' i v w') : Mk a0 ops J' G' (listed.setIfInBounds i true) (a.put o.dst v) w' := by
  have hi : i < ops.size := (Array.getElem?_eq_some_iff.1 ho).1
  have hdi := List.all_eq_true.1 hd i (by simpa using hi)
  rw [ho] at hdi
  simp only [Option.bind_some] at hdi
  have hlt : ∀ d, o.dst = some d → d < a.tmps.size := fun d e => by
    rw [e] at hdi
    simp only [Bool.and_eq_true, decide_eq_true_eq] at hdi
    rw [h.size]; exact hdi.1
  have hne : ∀ j, j < ops.size → j ≠ i → ∀ d, o.dst = some d → (ops[j]?).bind (·.dst) ≠ some d := fun j hj hji d e => by
    rw [e] at hdi
    simp only [Bool.and_eq_true, decide_eq_true_eq, List.all_eq_true, List.mem_range, Bool.or_eq_true] at hdi
    exact (hdi.2 j hj).resolve_left hji
  refine ⟨by simpa using h.len, by rw [Act.size_put, h.size], by rw [Act.defers_put', h.defers], fun t ht => ?_, fun j hj hlj => ?_, hG'⟩
  · rw [← h.frame t ht]
    cases e : o.dst with
    | none => rfl
    | some d =>
      have := List.all_eq_true.1 ht i (by simpa using hi)
      rw [ho] at this
      simp only [Option.bind_some, e, decide_eq_true_eq] at this
      exact Act.eval_put_ne a d t v (fun e' => this (by rw [e']))
  · have hgd : ∀ (l : Array Bool), (l.getD j false = true) = ((l[j]?.getD false) = true) := fun l => by rw [Array.getD_eq_getD_getElem?]
    by_cases hji : j = i
    · subst hji
      rw [slot_put_same ho hlt hv]
      exact hJ
    · rw [slot_put_ne (hne j hj hji)]
      have hl2 : listed.getD j false = true := by
        rw [hgd] at hlj ⊢
        rwa [Array.getElem?_setIfInBounds_ne (i := i) (j := j) (fun e => hji e.symm)] at hlj
      exact hT j (h.marks j hj hl2)


def PhStep2 (P : Program) (ops : Array Oper) (Q : Exit → Act → World → Prop) (a0 : Act) (JJ : Bool → Nat → Value → World → Prop) (G : Bool → World → Prop) (b b' : Bool) (i : Nat) (o : Oper) : Prop :=
  ∀ a w, (∀ t, notDst ops t = true → a.eval (.tmp t) = a0.eval (.tmp t)) → G b w → (∀ j, depOn ops o j = true → JJ b j (slotOf ops a j) w) →
    o.wp P a w (fun a' w' => ∃ v, a' = a.put o.dst v ∧ (o.dst = none → v = undef) ∧ JJ b' i v w' ∧ G b' w' ∧ ∀ j, JJ b j (slotOf ops a j) w → JJ b' j (slotOf ops a j) w') Q
theorem wpAny_phase2 {JJ : Bool → Nat → Value → World → Prop} {GG : Bool → World → Prop} {m i1 : Nat} (hd : dstsOk ops a0.tmps.size = true) (hg : noGuard ops = true) (hA : afterOk ops = true) (hL : lastOk ops m = true) (hi1 : i1 < m)
    (hstep : ∀ b i o, i < m → i ≠ i1 → ops[i]? = some o → (b = true → reach ops 40 i1 i = false) → PhStep2 P ops Q a0 JJ GG b b i o)
    (hone : ∀ o, ops[i1]? = some o → PhStep2 P ops Q a0 JJ GG false true i1 o)
    (hlast : ∀ o, ops[m]? = some o → ∀ a w, a.defers = a0.defers → a.tmps.size = a0.tmps.size → (∀ t, notDst ops t = true → a.eval (.tmp t) = a0.eval (.tmp t)) → GG true w → (∀ i, i < m → JJ true i (slotOf ops a i) w) →
      o.wp P a w (fun a' w' => Q .normal a' w') Q) :
    ∀ (fuel : Nat) (listed : Array Bool) (a : Act) (w : World), listed.toList.count false ≤ fuel → listed.getD m true = false → Closed ops listed → Mk a0 ops (JJ (listed.getD i1 false)) (GG (listed.getD i1 false)) listed a w → wpAny P .any ops Q fuel listed a w := by
  simp only [lastOk, Bool.and_eq_true, decide_eq_true_eq] at hL
  obtain ⟨hm, hL⟩ := hL
  have hnr : ∀ (listed : Array Bool), listed.size = ops.size → listed.getD m true = false → Region.ready .any ops listed ≠ [] := fun listed hlen hu hr => by
    have h1 := all_listed hA hlen hr m m (Nat.le_refl _) (by omega)
    have hil : m < listed.size := by rw [hlen]; omega
    simp only [Array.getD, hil, dite_true] at hu h1
    rw [hu] at h1
    cases h1
  intro fuel
  induction fuel with
  | zero =>
    intro listed a w hc hu hcl h
    have hil : m < listed.size := by rw [h.len]; omega
    have hf : false ∈ listed.toList := by
      simp only [Array.getD, hil, dite_true] at hu
      rw [← hu]
      simp
    have := List.count_pos_iff.2 hf
    omega
  | succ fuel ih =>
    intro listed a w hc hu hcl h
    refine ⟨fun hr => absurd hr (hnr listed h.len hu), fun i hi => ?_⟩
    have hlt : i < ops.size := by
      have := (List.mem_filter.1 hi).1
      simpa using this
    have ho : ops[i]? = some ops[i] := Array.getElem?_eq_getElem hlt
    have hr := (ready_iff ho).1 hi
    have hil : i < listed.size := by rw [h.len]; exact hlt
    have hli : listed[i] = false := by simpa [Array.getD, hil] using hr.1
    unfold wpOp
    rw [ho]
    simp only
    have hgi : (ops[i]).guard = none := by
      have := Array.all_eq_true_iff_forall_mem.1 hg ops[i] (Array.getElem_mem hlt)
      simpa using this
    rw [if_pos (by simp [Region.wanted, hgi])]
    by_cases him : i = m
    · subst him
      have hall : ∀ j, j < i → listed.getD j false = true := fun j hj => by
        rw [ho] at hL
        have := List.all_eq_true.1 hL j (by simpa using hj)
        obtain ⟨e, he, hb⟩ := Array.any_eq_true'.1 this
        simp only [Bool.and_eq_true, decide_eq_true_eq] at hb
        obtain ⟨hb1, rfl⟩ := hb
        exact hr.2 e he hb1
      have hb1 : listed.getD i1 false = true := hall i1 hi1
      rw [hb1] at h
      refine .inl (Oper.wp_mono ?_ (hlast _ ho a w h.defers h.size h.frame h.world fun j hj => h.marks j (by omega) (hall j hj)))
      intro a' w' hq
      refine wpAny_done (ready_all (fun j hj => ?_) (by simpa using h.len)) hq _
      by_cases hji : j = i
      · subst hji
        simp [Array.getD, hil]
      · have := hall j (by omega)
        rw [Array.getD_eq_getD_getElem?] at this ⊢
        rwa [Array.getElem?_setIfInBounds_ne (fun e => hji e.symm)]
    · have hdeps : ∀ j, depOn ops ops[i] j = true → JJ (listed.getD i1 false) j (slotOf ops a j) w := fun j hj => by
        obtain ⟨e, he, hb⟩ := Array.any_eq_true'.1 hj
        simp only [Bool.and_eq_true, decide_eq_true_eq] at hb
        obtain ⟨⟨hb1, rfl⟩, hb2⟩ := hb
        exact h.marks _ hb2 (hr.2 e he hb1)
      have hcnt : (listed.setIfInBounds i true).toList.count false ≤ fuel := by
        rw [Array.toList_setIfInBounds, List.count_set (by simpa using hil)]
        simp only [Array.getElem_toList, hli]
        have : 0 < listed.toList.count false := List.count_pos_iff.2 (by rw [← hli]; simp)
        simp only [show (false == false) = true from rfl, show (true == false) = false from rfl, if_true, Bool.false_eq_true, if_false]
        omega
      have hum : (listed.setIfInBounds i true).getD m true = false := by
        rw [Array.getD_eq_getD_getElem?] at hu ⊢
        rwa [Array.getElem?_setIfInBounds_ne him]
      by_cases hi : i = i1
      · subst hi
        have hb0 : listed.getD i false = false := by simp [Array.getD, hil, hli]
        have hb1 : (listed.setIfInBounds i true).getD i false = true := by simp [Array.getD, hil]
        rw [hb0] at h hdeps
        refine .inl (Oper.wp_mono ?_ (hone _ ho a w h.frame h.world hdeps))
        rintro a' w' ⟨v, rfl, hv, hJ, hG, hT⟩
        refine ih _ _ _ hcnt hum (closed_set hcl ho hil hr.2) ?_
        rw [hb1]
        exact h.step3 hT hG hd ho hv hJ
      · have hb1 : (listed.setIfInBounds i true).getD i1 false = listed.getD i1 false := by
          rw [Array.getD_eq_getD_getElem?, Array.getD_eq_getD_getElem?, Array.getElem?_setIfInBounds_ne hi]
        have hx : listed.getD i1 false = true → reach ops 40 i1 i = false := fun hb => by
          have hi1s : i1 < ops.size := by omega
          have ho1 : ops[i1]? = some ops[i1] := Array.getElem?_eq_getElem hi1s
          cases hrr : reach ops 40 i1 i with
          | false => rfl
          | true =>
            have := reach_listed hcl 40 i1 _ i ho1 (hcl i1 _ ho1 hb) hrr
            simp only [Array.getD, hil, dite_true] at this
            have h2 : listed[i] = true := by simpa using this
            rw [hli] at h2
            cases h2
        refine .inl (Oper.wp_mono ?_ (hstep _ i _ (by omega) hi ho hx a w h.frame h.world hdeps))
        rintro a' w' ⟨v, rfl, hv, hJ, hG, hT⟩
        refine ih _ _ _ hcnt hum (closed_set hcl ho hil hr.2) ?_
        rw [hb1]
        exact h.step3 hT hG hd ho hv hJ
def PhAll2 (P : Program) (ops : Array Oper) (Q : Exit → Act → World → Prop) (a0 : Act) (JJ : Bool → Nat → Value → World → Prop) (G : Bool → World → Prop) (i1 : Nat) : List Oper → Nat → Prop
  | [], _ => True
  | o :: l, k => (if k = i1 then PhStep2 P ops Q a0 JJ G false true k o else PhStep2 P ops Q a0 JJ G false false k o ∧ (reach ops 40 i1 k = false → PhStep2 P ops Q a0 JJ G true true k o)) ∧ PhAll2 P ops Q a0 JJ G i1 l (k + 1)
theorem PhAll2.get {JJ : Bool → Nat → Value → World → Prop} {GG : Bool → World → Prop} {i1 : Nat} : ∀ {l : List Oper} {k : Nat}, PhAll2 P ops Q a0 JJ GG i1 l k → ∀ i o, l[i]? = some o → (if k + i = i1 then PhStep2 P ops Q a0 JJ GG false true (k + i) o else PhStep2 P ops Q a0 JJ GG false false (k + i) o ∧ (reach ops 40 i1 (k + i) = false → PhStep2 P ops Q a0 JJ GG true true (k + i) o))
  | [], _, _, i, o, h => by simp at h
  | x :: l, k, h, 0, o, ho => by
    simp only [List.getElem?_cons_zero, Option.some.injEq] at ho
    subst ho
    exact h.1
  | x :: l, k, h, i + 1, o, ho => by
    have := PhAll2.get h.2 i o (by simpa using ho)
    rwa [show k + 1 + i = k + (i + 1) by omega] at this
theorem wp_region_phase2 {id : Nat} {w0 : World} (m i1 : Nat) (JJ : Bool → Nat → Value → World → Prop) (GG : Bool → World → Prop) (hm : P.follows .mixedOrders = true) (hd : dstsOk ops a0.tmps.size = true) (hg : noGuard ops = true) (hA : afterOk ops = true) (hL : lastOk ops m = true) (hi1 : i1 < m)
    (hG0 : GG false w0.drew) (hstep : PhAll2 P ops Q a0 JJ GG i1 (ops.toList.take m) 0)
    (hlast : ∀ o, ops[m]? = some o → ∀ a w, a.defers = a0.defers → a.tmps.size = a0.tmps.size → (∀ t, notDst ops t = true → a.eval (.tmp t) = a0.eval (.tmp t)) → GG true w → (∀ i, i < m → JJ true i (slotOf ops a i) w) →
      o.wp P a w (fun a' w' => Q .normal a' w') Q) :
    (Code.region id ops true).wp P Q a0 w0 := by
  have hsz : ops.size = m + 1 := by
    simp only [lastOk, Bool.and_eq_true, decide_eq_true_eq] at hL
    exact hL.1
  have hb0 : (Array.replicate ops.size false).getD i1 false = false := by simp [Array.getD]
  refine wp_region_any hm (wpAny_phase2 (JJ := JJ) (GG := GG) (m := m) (i1 := i1) hd hg hA hL hi1 (fun b i o hi hne ho hx => ?_) (fun o ho => ?_) hlast _ _ _ _ ?_ ?_ (fun i o ho h => ?_) ?_)
  · have := PhAll2.get hstep i o (by rw [List.getElem?_take, if_pos hi]; simpa using ho)
    rw [Nat.zero_add, if_neg hne] at this
    cases b with
    | false => exact this.1
    | true => exact this.2 (hx rfl)
  · have := PhAll2.get hstep i1 o (by rw [List.getElem?_take, if_pos hi1]; simpa using ho)
    rwa [Nat.zero_add, if_pos rfl] at this
  · simp
  · simp [Array.getD, hsz]
  · have hi : i < ops.size := (Array.getElem?_eq_some_iff.1 ho).1
    simp [Array.getD, hi] at h
  · rw [hb0]
    exact ⟨by simp, rfl, rfl, fun t _ => rfl, fun i hi h => by simp [Array.getD, hi] at h, hG0⟩
end Go.Proofs.YtmpladnglfiejaaGreatDoor
