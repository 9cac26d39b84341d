/- A drawn region inside a fence, whose last operation waits for all others, some of them through others. -/
import Derived.Test.YtmpladnglfiejaaGreatDoorPB
import Derived.OwnWalkIn
namespace Go.Proofs.YtmpladnglfiejaaGreatDoor
open Go.RowKit
set_option maxRecDepth 100000
set_option linter.unusedVariables false
set_option linter.unusedSimpArgs false
variable {P : Program} {ops : Array Oper} {Q : Exit → Act → World → Prop} {a0 : Act} {J : Nat → Value → World → Prop} {G : World → Prop} {R : World → World → Prop} {F : Fence} {n : Nat}
theorem wpAnyIn_reach {m : Nat} (hmono : ∀ i v w w', R w w' → J i v w → J i v w') (hGR : ∀ w w', G w → R w w' → G w') (hd : dstsOk ops a0.tmps.size = true) (hg : noGuard ops = true) (hA : afterOk ops = true) (hm : ops.size = m + 1) (hL : ∀ j, j < m → reach ops 40 m j = true)
    (hstep : ∀ i o, i < m → ops[i]? = some o → MarkStepIn F n P ops Q a0 J G R i o)
    (hlast : ∀ o, ops[m]? = some o → ∀ a w, a.defers = a0.defers → a.tmps.size = a0.tmps.size → (∀ t, ((List.range ops.size).all fun i => decide ((ops[i]?).bind (·.dst) ≠ some t)) = true → a.eval (.tmp t) = a0.eval (.tmp t)) → G w → (∀ i, i < m → J i (slotOf ops a i) w) →
      o.wpIn F n P a w (fun a' w' => Q .normal a' w') Q) :
    ∀ (fuel : Nat) (listed : Array Bool) (a : Act) (w : World), listed.toList.count false ≤ fuel → listed.getD m true = false → Closed ops listed → Mk a0 ops J G listed a w → wpAnyIn F n P .any ops Q fuel listed a w := by
  have hnr : ∀ (listed : Array Bool) (a : Act) (w : World), listed.getD m true = false → Mk a0 ops J G listed a w → Region.ready .any ops listed ≠ [] := fun listed a w hu h hr => by
    have h1 := all_listed hA h.len hr m m (Nat.le_refl _) (by omega)
    have hil : m < listed.size := by rw [h.len]; omega
    simp only [Array.getD, hil, dite_true] at hu h1
    rw [hu] at h1
    cases h1
  intro fuel
  induction fuel with
  | zero =>
    intro listed a w hc hu hcl h
    have hil : m < listed.size := by rw [h.len]; omega
    have hf : false ∈ listed.toList := by
      simp only [Array.getD, hil, dite_true] at hu
      rw [← hu]
      simp
    have := List.count_pos_iff.2 hf
    omega
  | succ fuel ih =>
    intro listed a w hc hu hcl h
    refine ⟨fun hr => absurd hr (hnr listed a w hu h), fun i hi => ?_⟩
    have hlt : i < ops.size := by
      have := (List.mem_filter.1 hi).1
      simpa using this
    have ho : ops[i]? = some ops[i] := Array.getElem?_eq_getElem hlt
    have hr := (ready_iff ho).1 hi
    have hil : i < listed.size := by rw [h.len]; exact hlt
    have hli : listed[i] = false := by simpa [Array.getD, hil] using hr.1
    unfold wpOpIn
    rw [ho]
    simp only
    have hgi : (ops[i]).guard = none := by
      have := Array.all_eq_true_iff_forall_mem.1 hg ops[i] (Array.getElem_mem hlt)
      simpa using this
    rw [if_pos (by simp [Region.wanted, hgi])]
    by_cases him : i = m
    · subst him
      have hall : ∀ j, j < i → listed.getD j false = true := fun j hj => reach_listed hcl 40 i _ j ho hr.2 (hL j hj)
      refine (Oper.wpIn_mono ?_ (hlast _ ho a w h.defers h.size h.frame h.world fun j hj => h.marks j (by omega) (hall j hj)))
      intro a' w' hq
      refine wpAnyIn_done (ready_all (fun j hj => ?_) (by simpa using h.len)) hq _
      by_cases hji : j = i
      · subst hji
        simp [Array.getD, hil]
      · have := hall j (by omega)
        rw [Array.getD_eq_getD_getElem?] at this ⊢
        rwa [Array.getElem?_setIfInBounds_ne (fun e => hji e.symm)]
    · refine (Oper.wpIn_mono ?_ (hstep i _ (by omega) ho a w h.frame h.world fun j hj => ?_))
      · rintro a' w' ⟨v, rfl, hv, hJ, hR⟩
        refine ih _ _ _ ?_ ?_ (closed_set hcl ho hil hr.2) (h.step hmono hGR hd ho hv hJ hR)
        · rw [Array.toList_setIfInBounds, List.count_set (by simpa using hil)]
          simp only [Array.getElem_toList, hli]
          have : 0 < listed.toList.count false := List.count_pos_iff.2 (by rw [← hli]; simp)
          simp only [show (false == false) = true from rfl, show (true == false) = false from rfl, if_true, Bool.false_eq_true, if_false]
          omega
        · rw [Array.getD_eq_getD_getElem?] at hu ⊢
          rwa [Array.getElem?_setIfInBounds_ne him]
      · obtain ⟨e, he, hb⟩ := Array.any_eq_true'.1 hj
        simp only [Bool.and_eq_true, decide_eq_true_eq] at hb
        obtain ⟨⟨hb1, rfl⟩, hb2⟩ := hb
        exact h.marks _ hb2 (hr.2 e he hb1)
theorem wpIn_region_reach {id : Nat} {w0 : World} (m : Nat) (J : Nat → Value → World → Prop) (G : World → Prop) (R : World → World → Prop) (hm : P.follows .mixedOrders = true) (hmono : ∀ i v w w', R w w' → J i v w → J i v w') (hGR : ∀ w w', G w → R w w' → G w') (hd : dstsOk ops a0.tmps.size = true) (hg : noGuard ops = true) (hA : afterOk ops = true) (hsz : ops.size = m + 1) (hL : ((List.range m).all fun j => reach ops 40 m j) = true)
    (hG0 : G w0.drew) (hstep : MarkAllIn F n P ops Q a0 J G R (ops.toList.take m) 0)
    (hlast : ∀ o, ops[m]? = some o → ∀ a w, a.defers = a0.defers → a.tmps.size = a0.tmps.size → (∀ t, ((List.range ops.size).all fun i => decide ((ops[i]?).bind (·.dst) ≠ some t)) = true → a.eval (.tmp t) = a0.eval (.tmp t)) → G w → (∀ i, i < m → J i (slotOf ops a i) w) →
      o.wpIn F n P a w (fun a' w' => Q .normal a' w') Q) :
    (Code.region id ops true).wpIn F n P Q a0 w0 := by
  refine wpIn_region_any hm (wpAnyIn_reach hmono hGR hd hg hA hsz (fun j hj => List.all_eq_true.1 hL j (by simpa using hj)) (fun i o hi ho => ?_) hlast _ _ _ _ ?_ ?_ (fun i o ho h => ?_) ⟨by simp, rfl, rfl, fun t _ => rfl, fun i hi h => ?_, hG0⟩)
  · have := MarkAllIn.get hstep i o (by rw [List.getElem?_take, if_pos hi]; simpa using ho)
    rwa [Nat.zero_add] at this
  · simp
  · simp [Array.getD, hsz]
  · have hi : i < ops.size := (Array.getElem?_eq_some_iff.1 ho).1
    simp [Array.getD, hi] at h
  · simp [Array.getD, hi] at h
variable {o : Oper} {a : Act} {w : World} {K : Act → World → Prop}
theorem FI_val {v : Value} (hd : ∀ c, o.op ≠ .defer c) (hc : ∀ c, o.op ≠ .call c) (hrun : (execOp a.eval o).run P w = .ok (.value v) w) (h : K (a.put o.dst v) w) : o.wpIn F n P a w K Q := by
  unfold Oper.wpIn
  refine ⟨fun f hf => ?_, ?_⟩
  · unfold Oper.about at hf
    split at hf
    · rename_i c hc'
      exact absurd hc' (hc _)
    · cases hf
  · rw [Oper.semAt_plain F _ _ hd, hrun]
    exact h
theorem FI_load {t : TypeId} {x : Operand} {ad : Addr} {v : Value} (ho : o.op = .load t x) (hx : a.eval x = .pointer (some ad)) (hl : (loadVar t ad).run P w = .ok v w) (h : K (a.put o.dst v) w) : o.wpIn F n P a w K Q :=
  FI_val (by rw [ho]; intro c e; cases e) (by rw [ho]; intro c e; cases e) (by simp [execOp, ho, hx, Instr.loadAt, Instr.sureAddr, hl]) h
theorem FI_move {x : Operand} {v : Value} (ho : o.op = .move x) (hx : a.eval x = v) (h : K (a.put o.dst v) w) : o.wpIn F n P a w K Q :=
  FI_val (by rw [ho]; intro c e; cases e) (by rw [ho]; intro c e; cases e) (by simp [execOp, ho, hx]) h
theorem FI_method {x y : Operand} {ts : Array TypeId} {f : FuncId} {fn : Func} {c : Code} {recv v : Value} (ho : o.op = .call { callee := .value x, args := #[y], argTypes := ts }) (hx : a.eval x = .func (.func f) #[recv] #[]) (hy : a.eval y = v)
    (hf : P.funcs[f]? = some fn) (hb : fn.body = some c) (hnm : fn.name ≠ "runtime.NumGoroutine") (hF : F.fn f) (hn : 1 ≤ n) (h : CallsIn F (n - 1) P f #[recv, v] w fun e W' => ∃ u, e = .returned u ∧ K (a.put o.dst u) W') : o.wpIn F n P a w K Q := by
  have hrun : (execOp a.eval o).run P w = .ok (.enter f #[recv, v]) w := by
    simp [execOp, ho, resolve, invoke, Deferred.ofValue, callFunc, hf, hb, hnm, hx, hy]
  unfold Oper.wpIn
  refine ⟨fun g hg => ?_, ?_⟩
  · have : g = f := by
      unfold Oper.about at hg
      rw [ho] at hg
      simp [resolve, Deferred.ofValue, hx, hy, Target.leads] at hg
      exact hg.symm
    subst this
    exact hF
  · rw [Oper.semAt_plain F _ _ (by rw [ho]; intro c e; cases e), hrun, Oper.uponIn_enter]
    refine ⟨fun _ => hn, h.mono ?_⟩
    rintro e w'' ⟨u, rfl, hK⟩
    exact hK
end Go.Proofs.YtmpladnglfiejaaGreatDoor
