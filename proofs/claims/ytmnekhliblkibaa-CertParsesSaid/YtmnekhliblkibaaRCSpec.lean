/- What the document's reading of a certificate tells, in plain Lean, and that it is what Cert.parse tells. No program in sight. -/
import Derived.Test.YtmnekhliblkibaaGR
import Derived.Test.YtmnekhliblkibaaGS
namespace Go.Proofs.Ytmnekhliblkibaa
open Go.RowKit
set_option maxRecDepth 100000
set_option linter.unusedVariables false
set_option linter.unusedSimpArgs false

def RC.parts (u : Int) (x : El) : Option (List El) := if (x.1.toNat : Int) = u then Der.all x.2.1 else none
def RC.value (b : List UInt8) : Option Nat := if b.length ≤ 5 ∧ Der.be b < 8589934592 then some (Der.be b) else none
def RC.key (x : El) : Option (List UInt8 × Nat) := (RC.parts 48 x).bind fun l => (Cert.must (decide (l.length = 2) && ((l.getD 0 El.none_).2.2 == Ref.keyAlg))).bind fun _ =>
  (Cert.whole (l.getD 1 El.none_)).bind fun b => (Cert.only b).bind fun y => (RC.parts 48 y).bind fun m => (Cert.must (decide (m.length = 2))).bind fun _ =>
    (Cert.number (m.getD 0 El.none_)).bind fun n => (Cert.number (m.getD 1 El.none_)).bind fun e => (RC.value e).bind fun v => some (n, v)
def RC.constraints (f : Fl) (x : El) : Option Fl := (RC.parts 48 x).bind fun l => (Cert.must (decide (l.length ≤ 2) && (decide (l.length = 0) || (l.getD 0 El.none_).2.2 == [1, 1, 255]))).bind fun _ =>
  if l.length = 2 then (Cert.number (l.getD 1 El.none_)).bind fun n => (RC.value n).bind fun v => (Cert.must (decide (v ≤ 255))).bind fun _ => some {f with ca := true, path := (v : Int)}
  else some {f with ca := decide (0 < l.length)}
def RC.forCode : List UInt8 := [43, 6, 1, 5, 5, 7, 3, 3]
/-- What the rounds of 'meant' gather: whether code is meant, whether all were identifiers. -/
def RC.mean (p : Bool × Bool) (l : List El) : Bool × Bool := l.foldl (fun p y => (p.1 || y.2.1 == RC.forCode, p.2 && ((Der.oid y.2.1).isSome && decide ((y.1.toNat : Int) = 6)))) p
def RC.meant (f : Fl) (x : El) : Option Fl := (RC.parts 48 x).bind fun l => (Cert.must ((RC.mean (false, true) l).2 && decide (0 < l.length))).bind fun _ => some {f with code := (RC.mean (false, true) l).1}
def RC.basic : List UInt8 := [85, 29, 19]
def RC.usage : List UInt8 := [85, 29, 15]
def RC.purposes : List UInt8 := [85, 29, 37]
def RC.known (nm : List UInt8) : Bool := nm == RC.basic || nm == RC.usage || nm == RC.purposes
def RC.told (f : Fl) (nm : List UInt8) (y : El) : Option Fl := if nm = RC.basic then RC.constraints f y else if nm = RC.usage then Cert.usage f y else RC.meant f y
def RC.shape (l : List El) (j : Nat) : Bool := ((((l.getD 0 El.none_).1.toNat : Int) == 6) && (((l.getD j El.none_).1.toNat : Int) == 4)) && (decide (j = 1) || (l.getD 1 El.none_).2.2 == [1, 1, 255])
def RC.extension (f : Fl) (x : El) : Option (Fl × List UInt8) := (RC.parts 48 x).bind fun l => (Cert.must (decide (2 ≤ l.length) && decide (l.length ≤ 3))).bind fun _ =>
  (Cert.must (RC.shape l (l.length - 1))).bind fun _ => (Der.oid (l.getD 0 El.none_).2.1).bind fun _ =>
    if RC.known (l.getD 0 El.none_).2.1 = true then (Cert.only (l.getD (l.length - 1) El.none_).2.1).bind fun y => (RC.told f (l.getD 0 El.none_).2.1 y).bind fun g => some (g, (l.getD 0 El.none_).2.1)
    else (Cert.must (decide (l.length = 2))).bind fun _ => some (f, (l.getD 0 El.none_).2.1)
def RC.exts (f : Fl) (names : List (List UInt8)) : List El → Option Fl
  | [] => some f
  | y :: l => (RC.extension f y).bind fun p => if names.contains p.2 = true then none else RC.exts p.1 (names ++ [p.2]) l
def RC.extensions (f : Fl) (x : El) : Option Fl := (RC.parts 163 x).bind fun o => (Cert.must (decide (o.length = 1))).bind fun _ => (RC.parts 48 (o.getD 0 El.none_)).bind fun l =>
  (Cert.must (decide (0 < l.length))).bind fun _ => RC.exts f [] l
def RC.first (t : List El) : Bool := decide (7 ≤ t.length) && decide (t.length ≤ 8) && ((t.getD 0 El.none_).2.2 == Ref.version) && ((t.getD 2 El.none_).2.2 == Ref.signAlg) && (((t.getD 3 El.none_).1.toNat : Int) == 48) && (((t.getD 5 El.none_).1.toNat : Int) == 48)
def RC.signed (f : Fl) (x : El) : Option Sg := (RC.parts 48 x).bind fun t => (Cert.must (RC.first t)).bind fun _ => (Cert.number (t.getD 1 El.none_)).bind fun n =>
  (Cert.must (decide (0 < n.length) && decide ((t.getD 1 El.none_).2.1.length ≤ 20))).bind fun _ => (RC.parts 48 (t.getD 4 El.none_)).bind fun v => (Cert.must (decide (v.length = 2))).bind fun _ =>
    (Cert.moment (v.getD 0 El.none_)).bind fun a => (Cert.moment (v.getD 1 El.none_)).bind fun b => (RC.key (t.getD 6 El.none_)).bind fun k => (Cert.must (!Stamp.less b a)).bind fun _ =>
      (if t.length = 8 then RC.extensions f (t.getD 7 El.none_) else some f).bind fun g =>
        some ⟨x.2.2, (t.getD 3 El.none_).2.2, (t.getD 5 El.none_).2.2, (t.getD 1 El.none_).2.1, a, b, k.1, k.2, g⟩
def RC.read (b : List UInt8) : Option (Sg × List UInt8) := (Cert.only b).bind fun x => (RC.parts 48 x).bind fun l => (Cert.must (decide (l.length = 3) && ((l.getD 1 El.none_).2.2 == Ref.signAlg))).bind fun _ =>
  (Cert.whole (l.getD 2 El.none_)).bind fun g => (RC.signed ⟨false, -1, -1, true⟩ (l.getD 0 El.none_)).bind fun s => some (s, g)

/-! The same as the program's. -/
theorem rparts_eq (u : Nat) (lo hi : Int) (x : El) : Cert.parts (u : Int) lo hi x = (RC.parts (u : Int) x).bind fun l => (Cert.must (decide (lo ≤ (l.length : Int)) && decide ((l.length : Int) ≤ hi))).bind fun _ => some l := by
  unfold Cert.parts RC.parts
  by_cases h : (x.1.toNat : Int) = (u : Int)
  · rw [body_mk h, if_pos h]; rfl
  · rw [body_no h, if_neg h]; rfl
theorem rparts_inv {u : Nat} {x : El} {l : List El} (hu : u < 256) (h : RC.parts (u : Int) x = some l) : x.1 = UInt8.ofNat u ∧ x.2.1 = raws l ∧ ∀ y ∈ l, El.wf y := by
  unfold RC.parts at h
  split at h
  · rename_i h1
    obtain ⟨h2, h3⟩ := all_inv h
    exact ⟨tag_eq hu h1, h2.symm, h3⟩
  · cases h
theorem wf_raw {x y : El} (hx : El.wf x) (hy : El.wf y) (h : x.2.2 = y.2.2) : x = y := by
  have e1 := elem_wf hx []
  rw [h, elem_wf hy []] at e1
  simp only [Option.some.injEq, Prod.mk.injEq] at e1
  obtain ⟨a, b, c⟩ := x
  obtain ⟨a', b', c'⟩ := y
  simp only at e1
  have hc : c = c' := h
  rw [← e1.1, ← e1.2.1, hc]
theorem oid_iff {b bs : List UInt8} {o os : List Nat} (h : Der.oid b = some o) (hs : Der.oid bs = some os) : o = os ↔ b = bs :=
  ⟨fun e => by rw [← Der.oid_put h, ← Der.oid_put hs, e], fun e => by subst e; rw [h] at hs; exact Option.some.inj hs⟩
theorem getD_wf {l : List El} (h : ∀ y ∈ l, El.wf y) (k : Nat) (hk : k < l.length) : El.wf (l.getD k El.none_) := by
  rw [List.getD_eq_getElem?_getD, List.getElem?_eq_getElem hk]
  exact h _ (List.getElem_mem hk)
theorem opt_unit (o : Option Unit) (b : Bool) (h : o = some () ↔ b = true) : o = Cert.must b := by
  cases b
  · rw [must_f rfl]
    cases o with
    | none => rfl
    | some u => exact absurd (h.1 rfl) (by decide)
  · rw [must_t rfl]; exact h.2 rfl
theorem method_sign_eq {x : El} (hx : El.wf x) : Cert.method 11 x = Cert.must (x.2.2 == Ref.signAlg) := by
  refine opt_unit _ _ ⟨fun h => ?_, fun h => ?_⟩
  · rw [beq_iff_eq, signAlg_eq]; exact method_inv h hx
  · rw [beq_iff_eq, ← alg_raw] at h
    rw [wf_raw hx (El.mk_wf (by decide) (by decide)) h]
    exact alg_method
theorem keyAlg_eq : Ref.keyAlg = Der.write 48 (Der.write 6 (Der.putOid [1, 2, 840, 113549, 1, 1, 1]) ++ [5, 0]) := by decide +kernel
theorem method_key_eq {x : El} (hx : El.wf x) : Cert.method 1 x = Cert.must (x.2.2 == Ref.keyAlg) := by
  refine opt_unit _ _ ⟨fun h => ?_, fun h => ?_⟩
  · rw [beq_iff_eq, keyAlg_eq]; exact method_inv h hx
  · rw [beq_iff_eq, ← keyAlg_raw] at h
    rw [wf_raw hx (El.mk_wf (by decide) (by decide)) h]
    exact keyAlg_method
theorem be_cons_ge (x : UInt8) (r : List UInt8) : x.toNat * 256 ^ r.length ≤ Der.be (x :: r) := by
  have key : ∀ (r : List UInt8) (a : Nat), a * 256 ^ r.length ≤ r.foldl (fun a x => a * 256 + x.toNat) a := by
    intro r
    induction r with
    | nil => intro a; simp
    | cons y r ih =>
      intro a
      refine Nat.le_trans ?_ (ih (a * 256 + y.toNat))
      rw [List.length_cons, Nat.pow_succ, Nat.mul_comm (256 ^ r.length), ← Nat.mul_assoc]
      exact Nat.mul_le_mul_right _ (by omega)
  have := key r (0 * 256 + x.toNat)
  simpa [Der.be] using this
theorem int_head {xs ys : List UInt8} (h : Der.int xs = some ys) : ys = [] ∨ ys.headD 0 ≠ 0 := by
  unfold Der.int at h
  split at h
  · cases h
  · rename_i b0 r
    split at h
    · cases h
    · split at h
      · split at h
        · injection h with h; exact .inl h.symm
        · rename_i b1 r' _ _ _
          split at h
          · cases h
          · rename_i h1
            injection h with h
            subst h
            right
            rw [List.headD_cons]
            intro e
            rw [e] at h1
            exact h1 (by decide)
      · rename_i h0
        injection h with h
        subst h
        right
        rw [List.headD_cons]
        intro e
        rw [e] at h0
        exact h0 rfl
theorem value_int {b n : List UInt8} (h : Der.int b = some n) : RC.value n = (Cert.must (decide ((Der.be n : Int) < 8589934592))).bind fun _ => some (Der.be n) := by
  unfold RC.value
  by_cases h1 : Der.be n < 8589934592
  · have h5 : n.length ≤ 5 := by
      rcases int_head h with rfl | hh
      · simp
      · match n, hh with
        | x :: r, hh =>
          rw [List.headD_cons] at hh
          have hx : 1 ≤ x.toNat := by
            rcases Nat.eq_zero_or_pos x.toNat with e | e
            · exact absurd (UInt8.toNat_inj.1 e) hh
            · exact e
          have h2 := be_cons_ge x r
          have h3 : 256 ^ r.length ≤ x.toNat * 256 ^ r.length := Nat.le_mul_of_pos_left _ hx
          rw [List.length_cons]
          rcases Nat.lt_or_ge r.length 5 with h4 | h4
          · omega
          · have := Nat.pow_le_pow_right (n := 256) (by decide) h4
            omega
    rw [if_pos ⟨h5, h1⟩, must_t (by simp; omega)]; rfl
  · rw [if_neg (fun h => h1 h.2), must_f (by simp; omega)]; rfl
theorem small_eq (lim : Nat) (hl : lim ≤ 8589934592) (x : El) : Cert.small (lim : Int) x = (Cert.number x).bind fun n => (RC.value n).bind fun v => (Cert.must (decide (v < lim))).bind fun _ => some v := by
  unfold Cert.small
  cases h : Cert.number x with
  | none => rfl
  | some n =>
    simp only [Option.bind_some]
    have hi : Der.int x.2.1 = some n := (number_tag h).2
    rw [value_int hi]
    by_cases h1 : Der.be n < lim
    · rw [must_t (b := decide ((Der.be n : Int) < (lim : Int))) (by simp; omega), must_t (by simp; omega)]
      simp only [Option.bind_some]
      rw [must_t (by simp; omega)]; rfl
    · rw [must_f (by simp; omega)]
      by_cases h2 : Der.be n < 8589934592
      · rw [must_t (by simp; omega)]
        simp only [Option.bind_some]
        rw [must_f (by simp; omega)]
      · rw [must_f (by simp; omega)]; rfl
theorem key_eq (x : El) : RC.key x = Cert.key x := by
  unfold RC.key Cert.key
  rw [show (48 : Int) = ((48 : Nat) : Int) from rfl, rparts_eq 48 2 2 x]
  cases h : RC.parts ((48 : Nat) : Int) x with
  | none => rfl
  | some l =>
    obtain ⟨_, _, hw⟩ := rparts_inv (by decide) h
    simp only [Option.bind_some]
    by_cases h2 : l.length = 2
    · rw [must_t (b := decide ((2 : Int) ≤ (l.length : Int)) && decide ((l.length : Int) ≤ 2)) (by simp [h2])]
      simp only [Option.bind_some, h2, decide_true, Bool.true_and]
      rw [method_key_eq (getD_wf hw 0 (by omega))]
      congr 1; funext _
      congr 1; funext b
      congr 1; funext y
      rw [rparts_eq 48 2 2 y]
      cases hm : RC.parts ((48 : Nat) : Int) y with
      | none => rfl
      | some m =>
        simp only [Option.bind_some]
        by_cases hm2 : m.length = 2
        · rw [must_t (b := decide ((2 : Int) ≤ (m.length : Int)) && decide ((m.length : Int) ≤ 2)) (by simp [hm2]), must_t (by simp [hm2])]
          simp only [Option.bind_some]
          congr 1; funext n
          rw [show (8589934592 : Int) = ((8589934592 : Nat) : Int) from rfl, small_eq 8589934592 (Nat.le_refl _)]
          cases hn : Cert.number (m.getD 1 El.none_) with
          | none => rfl
          | some e =>
            simp only [Option.bind_some]
            cases hv : RC.value e with
            | none => rfl
            | some v =>
              have : v < 8589934592 := by
                unfold RC.value at hv
                split at hv
                · rename_i h; injection hv with hv; omega
                · cases hv
              simp only [Option.bind_some]
              rw [must_t (by simpa using this)]; rfl
        · rw [must_f (b := decide ((2 : Int) ≤ (m.length : Int)) && decide ((m.length : Int) ≤ 2)) (by simp; omega), must_f (by simpa using hm2)]; rfl
    · rw [must_f (b := decide ((2 : Int) ≤ (l.length : Int)) && decide ((l.length : Int) ≤ 2)) (by simp; omega), must_f (by simp [h2])]; rfl
theorem constraints_eq (f : Fl) (hf : f.ca = false) (x : El) : RC.constraints f x = Cert.constraints f x := by
  unfold RC.constraints Cert.constraints
  rw [show (48 : Int) = ((48 : Nat) : Int) from rfl, rparts_eq 48 0 2 x]
  cases h : RC.parts ((48 : Nat) : Int) x with
  | none => rfl
  | some l =>
    simp only [Option.bind_some]
    by_cases h2 : l.length ≤ 2
    · rw [must_t (b := decide ((0 : Int) ≤ (l.length : Int)) && decide ((l.length : Int) ≤ 2)) (by simp; omega)]
      simp only [Option.bind_some, h2, decide_true, Bool.true_and]
      by_cases h0 : l.length = 0
      · rw [must_t (by simp [h0]), if_pos h0]
        simp only [Option.bind_some]
        rw [if_neg (by omega)]
        simp only [h0, Nat.lt_irrefl, decide_false]
        rw [← hf]
      · rw [if_neg h0]
        have e : (decide (l.length = 0) || (l.getD 0 El.none_).2.2 == [1, 1, 255]) = Cert.yes (l.getD 0 El.none_) := by simp [h0, Cert.yes]
        rw [e]
        congr 1; funext _
        by_cases h1 : l.length = 1
        · rw [if_neg (by omega), if_pos h1]; simp [h1]
        · rw [if_pos (by omega), if_neg h1]
          rw [show (256 : Int) = ((256 : Nat) : Int) from rfl, small_eq 256 (by decide)]
          cases hn : Cert.number (l.getD 1 El.none_) with
          | none => rfl
          | some n =>
            simp only [Option.bind_some]
            cases hv : RC.value n with
            | none => rfl
            | some v =>
              simp only [Option.bind_some]
              rw [show decide (v ≤ 255) = decide (v < 256) from by by_cases h : v < 256 <;> simp [h] <;> omega]
              cases hm : Cert.must (decide (v < 256)) <;> rfl
    · rw [must_f (b := decide ((0 : Int) ≤ (l.length : Int)) && decide ((l.length : Int) ≤ 2)) (by simp; omega), must_f (by simp [h2])]; rfl
theorem mean_snd : ∀ (l : List El) (p : Bool × Bool), p.2 = false → (RC.mean p l).2 = false
  | [], p, h => h
  | y :: l, p, h => mean_snd l _ (by simp [h])
theorem mean_eq : ∀ (l : List El) (q : Bool), Cert.mean q l = (Cert.must (RC.mean (q, true) l).2).bind fun _ => some (RC.mean (q, true) l).1
  | [], q => rfl
  | y :: l, q => by
    unfold Cert.mean Cert.arcs
    rw [show RC.mean (q, true) (y :: l) = RC.mean (q || y.2.1 == RC.forCode, true && ((Der.oid y.2.1).isSome && decide ((y.1.toNat : Int) = 6))) l from rfl]
    by_cases h6 : (y.1.toNat : Int) = 6
    · rw [body_mk h6]
      simp only [Option.bind_some]
      cases ho : Der.oid y.2.1 with
      | none =>
        rw [must_f (mean_snd l _ (by simp))]; rfl
      | some o =>
        simp only [Option.bind_some, Option.isSome_some, h6, decide_true, Bool.and_self]
        rw [mean_eq l]
        have e : (o == [1, 3, 6, 1, 5, 5, 7, 3, 3]) = (y.2.1 == RC.forCode) := by
          rw [Bool.eq_iff_iff, beq_iff_eq, beq_iff_eq]
          exact oid_iff ho (by decide +kernel)
        rw [e]
    · rw [body_no h6, must_f (mean_snd l _ (by simp [h6]))]; rfl
theorem meant_eq (f : Fl) (x : El) : RC.meant f x = Cert.purposes f x := by
  unfold RC.meant Cert.purposes RC.parts
  by_cases h : (x.1.toNat : Int) = 48
  · rw [body_mk h, if_pos h]
    simp only [Option.bind_some]
    congr 1; funext l
    by_cases h0 : 0 < l.length
    · rw [must_t (b := decide (0 < (l.length : Int))) (by simp; omega)]
      simp only [h0, decide_true, Bool.and_true, Option.bind_some]
      rw [mean_eq l false]
      cases hm : Cert.must (RC.mean (false, true) l).2 <;> rfl
    · rw [must_f (b := decide (0 < (l.length : Int))) (by simpa using h0), must_f (by simp [h0])]; rfl
  · rw [body_no h, if_neg h]; rfl
theorem told_eq (f : Fl) {o : List Nat} {nm : List UInt8} (l : List El) (j : Nat) (ho : Der.oid nm = some o) (hf : nm = RC.basic → f.ca = false) :
    Cert.told f o l j = if RC.known nm = true then (Cert.only (l.getD j El.none_).2.1).bind (RC.told f nm) else (Cert.must (decide (j = 1))).bind fun _ => some f := by
  unfold Cert.told RC.known RC.told
  have e1 := oid_iff ho (bs := RC.basic) oid_basic
  have e2 := oid_iff ho (bs := RC.usage) oid_usage
  have e3 := oid_iff ho (bs := RC.purposes) oid_purposes
  by_cases h1 : nm = RC.basic
  · rw [if_pos (e1.2 h1), if_pos (by simp [h1])]
    congr 1; funext y
    rw [if_pos h1, constraints_eq f (hf h1)]
  · rw [if_neg (fun h => h1 (e1.1 h))]
    by_cases h2 : nm = RC.usage
    · rw [if_pos (e2.2 h2), if_pos (by simp [h2])]
      congr 1; funext y
      rw [if_neg h1, if_pos h2]
    · rw [if_neg (fun h => h2 (e2.1 h))]
      by_cases h3 : nm = RC.purposes
      · rw [if_pos (e3.2 h3), if_pos (by simp [h3])]
        congr 1; funext y
        rw [if_neg h1, if_neg h2, meant_eq]
      · rw [if_neg (fun h => h3 (e3.1 h)), if_neg (by simp [h1, h2, h3])]
theorem constraints_ca (f : Fl) (c : Bool) (x : El) : RC.constraints {f with ca := c} x = RC.constraints f x := by
  unfold RC.constraints
  congr 1
theorem constraints_some (f : Fl) (x : El) : (RC.constraints f x = none ∧ Cert.constraints f x = none) ∨ ∃ g g', RC.constraints f x = some g ∧ Cert.constraints f x = some g' ∧ (f.ca = false → g = g') := by
  have key : (Cert.constraints f x).isSome = (Cert.constraints {f with ca := false} x).isSome := by
    unfold Cert.constraints
    cases h : Cert.parts 48 0 2 x with
    | none => rfl
    | some l =>
      simp only [Option.bind_some]
      split
      · rfl
      · cases hm : Cert.must (Cert.yes (l.getD 0 El.none_)) with
        | none => rfl
        | some u =>
          simp only [Option.bind_some]
  have e := constraints_eq {f with ca := false} rfl x
  rw [constraints_ca] at e
  rw [← e] at key
  cases h1 : RC.constraints f x with
  | none =>
    rw [h1] at key
    left
    refine ⟨rfl, ?_⟩
    cases h2 : Cert.constraints f x with
    | none => rfl
    | some g => rw [h2] at key; cases key
  | some g =>
    right
    rw [h1] at key
    cases h2 : Cert.constraints f x with
    | none => rw [h2] at key; cases key
    | some g' =>
      refine ⟨g, g', rfl, rfl, fun hf => ?_⟩
      rw [constraints_eq f hf, h2] at h1
      exact (Option.some.inj h1).symm
theorem usage_ca {f g : Fl} {x : El} (h : Cert.usage f x = some g) : g.ca = f.ca := by
  unfold Cert.usage at h
  obtain ⟨b, _, h⟩ := binv h
  obtain ⟨p, _, h⟩ := binv h
  obtain ⟨_, _, h⟩ := binv h
  obtain ⟨_, _, h⟩ := binv h
  injection h with h
  rw [← h]
theorem meant_ca {f g : Fl} {x : El} (h : RC.meant f x = some g) : g.ca = f.ca := by
  unfold RC.meant at h
  obtain ⟨b, _, h⟩ := binv h
  obtain ⟨_, _, h⟩ := binv h
  injection h with h
  rw [← h]
theorem known_iff {nm : List UInt8} : RC.known nm = true ↔ nm = RC.basic ∨ nm = RC.usage ∨ nm = RC.purposes := by
  unfold RC.known
  simp only [Bool.or_eq_true, beq_iff_eq, or_assoc]
theorem told_rel (f : Fl) {o : List Nat} {nm : List UInt8} (l : List El) (j : Nat) (ho : Der.oid nm = some o) (R : Option Fl)
    (hR : R = if RC.known nm = true then (Cert.only (l.getD j El.none_).2.1).bind (RC.told f nm) else (Cert.must (decide (j = 1))).bind fun _ => some f) :
    (R = none ∧ Cert.told f o l j = none) ∨ ∃ g g', R = some g ∧ Cert.told f o l j = some g' ∧ ((nm = RC.basic → f.ca = false) → g = g') ∧ (nm ≠ RC.basic → g.ca = f.ca) := by
  subst hR
  by_cases hb : nm = RC.basic
  · subst hb
    have : o = [2, 5, 29, 19] := by rw [show Der.oid RC.basic = some [2, 5, 29, 19] from oid_basic] at ho; exact (Option.some.inj ho).symm
    subst this
    rw [if_pos (by decide)]
    unfold Cert.told
    rw [if_pos rfl]
    cases hy : Cert.only (l.getD j El.none_).2.1 with
    | none => exact .inl ⟨rfl, rfl⟩
    | some y =>
      simp only [Option.bind_some]
      rw [show RC.told f RC.basic y = RC.constraints f y from if_pos rfl]
      rcases constraints_some f y with h | ⟨g, g', h1, h2, h3⟩
      · exact .inl h
      · exact .inr ⟨g, g', h1, h2, fun h => h3 (by simpa using h), fun h => absurd rfl h⟩
  · rw [told_eq f l j ho (fun h => absurd h hb)]
    cases hr : (if RC.known nm = true then (Cert.only (l.getD j El.none_).2.1).bind (RC.told f nm) else (Cert.must (decide (j = 1))).bind fun _ => some f) with
    | none => exact .inl ⟨rfl, rfl⟩
    | some g =>
      refine .inr ⟨g, g, rfl, rfl, fun _ => rfl, fun _ => ?_⟩
      split at hr
      · obtain ⟨y, _, hr⟩ := binv hr
        unfold RC.told at hr
        rw [if_neg hb] at hr
        split at hr
        · exact usage_ca hr
        · exact meant_ca hr
      · obtain ⟨_, _, hr⟩ := binv hr
        injection hr with hr
        rw [hr]
theorem ext_rel (f : Fl) (x : El) : (RC.extension f x = none ∧ Cert.extension f x = none) ∨
    ∃ g g' nm, RC.extension f x = some (g, nm) ∧ Cert.extension f x = some (g', nm) ∧ ((nm = RC.basic → f.ca = false) → g = g') ∧ (nm ≠ RC.basic → g.ca = f.ca) := by
  unfold RC.extension Cert.extension
  rw [show (48 : Int) = ((48 : Nat) : Int) from rfl, rparts_eq 48 2 3 x]
  cases h : RC.parts ((48 : Nat) : Int) x with
  | none => exact .inl ⟨rfl, rfl⟩
  | some l =>
    simp only [Option.bind_some]
    by_cases hl : 2 ≤ l.length ∧ l.length ≤ 3
    · rw [must_t (b := decide ((2 : Int) ≤ (l.length : Int)) && decide ((l.length : Int) ≤ 3)) (by simp; omega), must_t (b := decide (2 ≤ l.length) && decide (l.length ≤ 3)) (by simp; omega)]
      simp only [Option.bind_some]
      have hj : decide (l.length - 1 = 1) = decide (l.length = 2) := by by_cases h2 : l.length = 2 <;> simp [h2] <;> omega
      by_cases h6 : ((l.getD 0 El.none_).1.toNat : Int) = 6
      · have e1 : Cert.arcs (l.getD 0 El.none_) = Der.oid (l.getD 0 El.none_).2.1 := by unfold Cert.arcs; rw [body_mk h6]; rfl
        have e2 : RC.shape l (l.length - 1) = Cert.lastOk l (l.length - 1) := by unfold RC.shape Cert.lastOk Cert.yes; rw [h6]; simp
        rw [e1, e2]
        cases hs : Cert.must (Cert.lastOk l (l.length - 1)) with
        | none =>
          left
          refine ⟨rfl, ?_⟩
          cases Der.oid (l.getD 0 El.none_).2.1 <;> rfl
        | some u =>
          cases ho : Der.oid (l.getD 0 El.none_).2.1 with
          | none => exact .inl ⟨rfl, rfl⟩
          | some o =>
            simp only [Option.bind_some]
            rcases told_rel f l (l.length - 1) ho _ rfl with ⟨h1, h2⟩ | ⟨g, g', h1, h2, h3, h4⟩
            · left
              rw [h2]
              refine ⟨?_, rfl⟩
              split at h1
              · rename_i hk
                rw [if_pos hk]
                rcases Option.bind_eq_none_iff.1 h1 with hh
                cases hy : Cert.only (l.getD (l.length - 1) El.none_).2.1 with
                | none => rfl
                | some y =>
                  simp only [Option.bind_some]
                  rw [hh y hy]; rfl
              · rename_i hk
                rw [if_neg hk, ← hj]
                rcases Option.bind_eq_none_iff.1 h1 with hh
                cases hy : Cert.must (decide (l.length - 1 = 1)) with
                | none => rfl
                | some y => cases hh y hy
            · right
              rw [h2]
              refine ⟨g, g', (l.getD 0 El.none_).2.1, ?_, rfl, h3, h4⟩
              split at h1
              · rename_i hk
                rw [if_pos hk]
                obtain ⟨y, hy, h1⟩ := binv h1
                rw [hy]
                simp only [Option.bind_some]
                rw [h1]; rfl
              · rename_i hk
                rw [if_neg hk, ← hj]
                obtain ⟨y, hy, h1⟩ := binv h1
                rw [hy]
                injection h1 with h1
                rw [h1]; rfl
      · left
        have e2 : RC.shape l (l.length - 1) = false := by unfold RC.shape; rw [show (((l.getD 0 El.none_).1.toNat : Int) == 6) = false from by simpa using h6]; rfl
        rw [e2, must_f rfl]
        refine ⟨rfl, ?_⟩
        have e1 : Cert.arcs (l.getD 0 El.none_) = none := by unfold Cert.arcs; rw [body_no h6]; rfl
        rw [e1]; rfl
    · left
      rw [must_f (b := decide ((2 : Int) ≤ (l.length : Int)) && decide ((l.length : Int) ≤ 3)) (by simp; omega), must_f (b := decide (2 ≤ l.length) && decide (l.length ≤ 3)) (by simp; omega)]
      exact ⟨rfl, rfl⟩
theorem exts_eq : ∀ (l : List El) (f : Fl) (names : List (List UInt8)), (RC.basic ∉ names → f.ca = false) →
    RC.exts f names l = (Cert.exts f l).bind fun p => (Cert.must (distinctTo names p.2)).bind fun _ => some p.1
  | [], f, names, _ => rfl
  | y :: l, f, names, hn => by
    unfold RC.exts Cert.exts
    rcases ext_rel f y with ⟨h1, h2⟩ | ⟨g, g', nm, h1, h2, h3, h4⟩
    · rw [h1, h2]; rfl
    · rw [h1, h2]
      simp only [Option.bind_some]
      by_cases hc : names.contains nm = true
      · rw [if_pos hc]
        cases hx : Cert.exts g' l with
        | none => rfl
        | some q =>
          simp only [Option.bind_some, distinctTo, hc]
          rfl
      · rw [if_neg hc]
        have hm : nm ∉ names := by simpa using hc
        have e : g = g' := h3 (fun hb => hn (hb ▸ hm))
        subst e
        rw [exts_eq l g (names ++ [nm]) (fun hb => by
          have hb1 : RC.basic ∉ names := fun h => hb (List.mem_append_left _ h)
          have hb2 : nm ≠ RC.basic := fun h => hb (h ▸ List.mem_append_right _ (List.mem_singleton.2 rfl))
          rw [h4 hb2]; exact hn hb1)]
        cases hx : Cert.exts g l with
        | none => rfl
        | some q =>
          simp only [Option.bind_some, distinctTo, hm, List.contains_eq_mem, decide_false, Bool.not_false, Bool.true_and]
theorem raws_few : ∀ {L : List El}, (∀ y ∈ L, El.wf y) → L.length ≤ (raws L).length
  | [], _ => Nat.zero_le _
  | x :: L, h => by
    rw [raws_cons, List.length_append, List.length_cons]
    have := wf_pos (h x List.mem_cons_self)
    have := raws_few (fun y hy => h y (List.mem_cons_of_mem _ hy))
    omega
theorem must_some {b : Bool} {u : Unit} : Cert.must b = some u ↔ b = true := by
  cases b
  · rw [must_f rfl]; simp
  · rw [must_t rfl]; simp
theorem body_of {l : List El} {x : El} (hb : x.2.1 = raws l) (hw : ∀ y ∈ l, El.wf y) {k : Nat} (hk : k < l.length) : (l.getD k El.none_).2.1.length ≤ x.2.1.length := by
  rw [List.getD_eq_getElem?_getD, List.getElem?_eq_getElem hk, hb]
  have h1 := raws_mem (List.getElem_mem hk)
  have h2 := (hw _ (List.getElem_mem hk)).1
  have h3 := write_ge l[k].1 l[k].2.1
  rw [← h2] at h3
  exact Nat.le_trans h3 h1
theorem extensions_eq (f : Fl) (hf : f.ca = false) (x : El) (hx : x.2.1.length ≤ 8192) :
    RC.extensions f x = (Cert.parts 163 1 1 x).bind fun o => (Cert.parts 48 1 8192 (o.getD 0 El.none_)).bind fun all => (Cert.exts f all).bind fun p => (Cert.must (distinct p.2)).bind fun _ => some p.1 := by
  unfold RC.extensions
  rw [show (163 : Int) = ((163 : Nat) : Int) from rfl, rparts_eq 163 1 1 x]
  cases h : RC.parts ((163 : Nat) : Int) x with
  | none => rfl
  | some o =>
    obtain ⟨_, ho, hw⟩ := rparts_inv (by decide) h
    simp only [Option.bind_some]
    by_cases h1 : o.length = 1
    · rw [must_t (b := decide ((1 : Int) ≤ (o.length : Int)) && decide ((o.length : Int) ≤ 1)) (by simp [h1]), must_t (by simp [h1])]
      simp only [Option.bind_some]
      rw [show (48 : Int) = ((48 : Nat) : Int) from rfl, rparts_eq 48 1 8192]
      cases h2 : RC.parts ((48 : Nat) : Int) (o.getD 0 El.none_) with
      | none => rfl
      | some l =>
        obtain ⟨_, hl, hv⟩ := rparts_inv (by decide) h2
        simp only [Option.bind_some]
        have hs := body_of ho hw (k := 0) (by omega)
        have hfew := raws_few hv
        rw [← hl] at hfew
        by_cases h0 : 0 < l.length
        · rw [must_t (b := decide ((1 : Int) ≤ (l.length : Int)) && decide ((l.length : Int) ≤ 8192)) (by simp; omega), must_t (by simp [h0])]
          simp only [Option.bind_some]
          rw [exts_eq l f [] (fun _ => hf)]
          simp only [distinctTo_eq, List.contains_nil, Bool.not_false, List.all_eq_true, implies_true, decide_true, Bool.true_and]
          have : ∀ q : List (List UInt8), (q.all fun _ => true) = true := fun q => by simp
          simp only [this, Bool.true_and]
        · rw [must_f (b := decide ((1 : Int) ≤ (l.length : Int)) && decide ((l.length : Int) ≤ 8192)) (by simp; omega), must_f (by simp [h0])]; rfl
    · rw [must_f (b := decide ((1 : Int) ≤ (o.length : Int)) && decide ((o.length : Int) ≤ 1)) (by simp; omega), must_f (by simp [h1])]; rfl
theorem told8_eq (s : Sg) (l : List El) (hl : l.length = 7 ∨ l.length = 8) (hf : s.fl.ca = false) (h7 : (l.getD 7 El.none_).2.1.length ≤ 8192) :
    Cert.told8 s l = (if l.length = 8 then RC.extensions s.fl (l.getD 7 El.none_) else some s.fl).bind fun g => some {s with fl := g} := by
  unfold Cert.told8
  by_cases h : l.length = 7
  · rw [if_pos h, if_neg (by omega)]; rfl
  · rw [if_neg h, if_pos (by omega), extensions_eq _ hf _ h7]
    cases Cert.parts 163 1 1 (l.getD 7 El.none_) with
    | none => rfl
    | some o =>
      simp only [Option.bind_some]
      cases Cert.parts 48 1 8192 (o.getD 0 El.none_) with
      | none => rfl
      | some all =>
        simp only [Option.bind_some]
        cases Cert.exts s.fl all with
        | none => rfl
        | some p =>
          simp only [Option.bind_some]
          cases Cert.must (distinct p.2) <;> rfl
theorem version_iff {x : El} (hx : El.wf x) : (∃ v, Cert.parts 160 1 1 x = some v ∧ (v.getD 0 El.none_).2.2 = [2, 1, 2]) ↔ x.2.2 = Ref.version := by
  constructor
  · rintro ⟨v, h, hv⟩
    obtain ⟨h1, h2, h3, h4, h5⟩ := parts_inv (k := 160) (by decide) h
    match v, h4, h5 with
    | [a], _, _ =>
      rw [← version_raw]
      have e1 : x.1 = 160 := h1
      have e2 : x.2.1 = [2, 1, 2] := by rw [h2]; simpa using hv
      rw [hx.1, e1, e2]; rfl
    | [], h4, _ => simp at h4
    | a :: b :: r, _, h5 => simp at h5; omega
  · intro h
    rw [← version_raw] at h
    rw [wf_raw hx (El.mk_wf (by decide) (by decide)) h]
    exact ⟨_, version_parts, by decide +kernel⟩
theorem parts_some {u : Nat} {lo hi : Int} {x : El} {l : List El} : Cert.parts (u : Int) lo hi x = some l ↔ RC.parts (u : Int) x = some l ∧ lo ≤ (l.length : Int) ∧ (l.length : Int) ≤ hi := by
  rw [rparts_eq, Option.bind_eq_some_iff]
  constructor
  · rintro ⟨a, h1, h2⟩
    obtain ⟨_, h3, h4⟩ := Option.bind_eq_some_iff.1 h2
    injection h4 with h4
    subst h4
    have := must_some.1 h3
    simp at this
    exact ⟨h1, this⟩
  · rintro ⟨h1, h2, h3⟩
    exact ⟨l, h1, by rw [must_t (by simp; omega)]; rfl⟩
theorem body_some' {u : Nat} {x : El} : (∃ b, Cert.body (u : Int) x = some b) ↔ (x.1.toNat : Int) = u := by
  constructor
  · rintro ⟨b, h⟩; exact (body_some h).2
  · intro h; exact ⟨_, body_mk h⟩
theorem signed_eq (f : Fl) (hf : f.ca = false) (x : El) (hx : x.2.1.length ≤ 8192) : RC.signed f x = Cert.signed f x := by
  refine Option.ext fun s => ?_
  constructor
  · intro h
    unfold RC.signed at h
    obtain ⟨t, ht, h⟩ := binv h
    obtain ⟨_, h1, h⟩ := binv h
    obtain ⟨n, hn, h⟩ := binv h
    obtain ⟨_, h2, h⟩ := binv h
    obtain ⟨v, hv, h⟩ := binv h
    obtain ⟨_, h3, h⟩ := binv h
    obtain ⟨a, ha, h⟩ := binv h
    obtain ⟨b, hb, h⟩ := binv h
    obtain ⟨k, hk, h⟩ := binv h
    obtain ⟨_, h4, h⟩ := binv h
    obtain ⟨g, hg, h⟩ := binv h
    injection h with h
    obtain ⟨_, hr, hw⟩ := rparts_inv (u := 48) (by decide) ht
    have h1 := must_some.1 h1
    unfold RC.first at h1
    simp only [Bool.and_eq_true, decide_eq_true_eq, beq_iff_eq] at h1
    obtain ⟨⟨⟨⟨⟨l7, l8⟩, e0⟩, e2⟩, e3⟩, e5⟩ := h1
    obtain ⟨v0, hv0, hv1⟩ := (version_iff (getD_wf hw 0 (by omega))).2 e0
    have h3 := must_some.1 h3
    simp only [decide_eq_true_eq] at h3
    unfold Cert.signed
    rw [show Cert.parts 48 7 8 x = some t from (parts_some (u := 48) (lo := 7) (hi := 8)).2 ⟨ht, by omega, by omega⟩]
    simp only [Option.bind_some]
    unfold Sg.a
    rw [hv0]
    simp only [Option.bind_some]
    unfold Sg.b
    rw [must_t (beq_iff_eq.2 hv1)]
    simp only [Option.bind_some]
    unfold Sg.c
    rw [hn]
    simp only [Option.bind_some]
    rw [h2]
    simp only [Option.bind_some]
    unfold Sg.d
    rw [method_sign_eq (getD_wf hw 2 (by omega)), must_t (beq_iff_eq.2 e2)]
    simp only [Option.bind_some]
    unfold Sg.e_
    rw [body_mk e3]
    simp only [Option.bind_some]
    unfold Sg.f
    rw [body_mk e5]
    simp only [Option.bind_some]
    unfold Sg.g
    rw [show Cert.parts 48 2 2 _ = some v from (parts_some (u := 48) (lo := 2) (hi := 2)).2 ⟨hv, by omega, by omega⟩]
    simp only [Option.bind_some]
    unfold Sg.h
    rw [ha]
    simp only [Option.bind_some]
    rw [hb]
    simp only [Option.bind_some]
    unfold Sg.i
    rw [h4]
    simp only [Option.bind_some]
    unfold Sg.j
    rw [← key_eq, hk]
    simp only [Option.bind_some]
    rw [told8_eq _ _ (by omega) hf (by
      rcases Nat.lt_or_ge 7 t.length with h | h
      · exact Nat.le_trans (body_of hr hw h) hx
      · rw [List.getD_eq_getElem?_getD, List.getElem?_eq_none h]; simp [El.none_])]
    dsimp only
    rw [hg]
    simp only [Option.bind_some, h]
  · intro h
    unfold Cert.signed at h
    obtain ⟨t, ht, h⟩ := binv h
    obtain ⟨ht, l7, l8⟩ := (parts_some (u := 48)).1 ht
    obtain ⟨_, hr, hw⟩ := rparts_inv (u := 48) (by decide) ht
    unfold Sg.a at h
    obtain ⟨v0, hv0, h⟩ := binv h
    unfold Sg.b at h
    obtain ⟨_, hv1, h⟩ := binv h
    unfold Sg.c at h
    obtain ⟨n, hn, h⟩ := binv h
    obtain ⟨_, h2, h⟩ := binv h
    unfold Sg.d at h
    obtain ⟨_, e2, h⟩ := binv h
    unfold Sg.e_ at h
    obtain ⟨_, e3, h⟩ := binv h
    unfold Sg.f at h
    obtain ⟨_, e5, h⟩ := binv h
    unfold Sg.g at h
    obtain ⟨v, hv, h⟩ := binv h
    obtain ⟨hv, m1, m2⟩ := (parts_some (u := 48)).1 hv
    unfold Sg.h at h
    obtain ⟨a, ha, h⟩ := binv h
    obtain ⟨b, hb, h⟩ := binv h
    unfold Sg.i at h
    obtain ⟨_, h4, h⟩ := binv h
    unfold Sg.j at h
    obtain ⟨k, hk, h⟩ := binv h
    rw [told8_eq _ _ (by omega) hf (by
      rcases Nat.lt_or_ge 7 t.length with h | h
      · exact Nat.le_trans (body_of hr hw h) hx
      · rw [List.getD_eq_getElem?_getD, List.getElem?_eq_none h]; simp [El.none_])] at h
    obtain ⟨g, hg, h⟩ := binv h
    have e0 := (version_iff (getD_wf hw 0 (by omega))).1 ⟨v0, hv0, by have := must_some.1 hv1; simpa using this⟩
    rw [method_sign_eq (getD_wf hw 2 (by omega))] at e2
    have e2 := must_some.1 e2
    have e3 := (body_some e3).2
    have e5 := (body_some e5).2
    unfold RC.signed
    rw [show RC.parts 48 x = some t from ht]
    simp only [Option.bind_some]
    rw [must_t (b := RC.first t) (by unfold RC.first; rw [e0, e2, e3, e5]; simp; omega)]
    simp only [Option.bind_some]
    rw [hn]
    simp only [Option.bind_some]
    rw [h2]
    simp only [Option.bind_some]
    rw [show RC.parts 48 _ = some v from hv]
    simp only [Option.bind_some]
    rw [must_t (by simp; omega)]
    simp only [Option.bind_some]
    rw [ha]
    simp only [Option.bind_some]
    rw [hb]
    simp only [Option.bind_some]
    rw [key_eq, hk]
    simp only [Option.bind_some]
    rw [h4]
    simp only [Option.bind_some]
    dsimp only at hg
    rw [hg]
    exact h
theorem read_eq (b : List UInt8) (hb : b.length ≤ 8192) : RC.read b = Cert.read b := by
  refine Option.ext fun s => ?_
  constructor
  · intro h
    unfold RC.read at h
    obtain ⟨x, hx, h⟩ := binv h
    obtain ⟨l, hl, h⟩ := binv h
    obtain ⟨_, h1, h⟩ := binv h
    obtain ⟨g, hg, h⟩ := binv h
    obtain ⟨s0, hs, h⟩ := binv h
    obtain ⟨_, hr, hw⟩ := rparts_inv (u := 48) (by decide) hl
    have h1 := must_some.1 h1
    simp only [Bool.and_eq_true, decide_eq_true_eq, beq_iff_eq] at h1
    have hxl := (only_len hx).1
    unfold Cert.read
    rw [hx]
    simp only [Option.bind_some]
    rw [show Cert.parts 48 3 3 x = some l from (parts_some (u := 48) (lo := 3) (hi := 3)).2 ⟨hl, by omega, by omega⟩]
    simp only [Option.bind_some]
    rw [← signed_eq _ rfl _ (Nat.le_trans (body_of hr hw (by omega)) (by omega)), hs]
    simp only [Option.bind_some]
    rw [method_sign_eq (getD_wf hw 1 (by omega)), must_t (beq_iff_eq.2 h1.2)]
    simp only [Option.bind_some]
    rw [hg]
    exact h
  · intro h
    unfold Cert.read at h
    obtain ⟨x, hx, h⟩ := binv h
    obtain ⟨l, hl, h⟩ := binv h
    obtain ⟨hl, m1, m2⟩ := (parts_some (u := 48)).1 hl
    obtain ⟨_, hr, hw⟩ := rparts_inv (u := 48) (by decide) hl
    have hxl := (only_len hx).1
    obtain ⟨s0, hs, h⟩ := binv h
    obtain ⟨_, h1, h⟩ := binv h
    obtain ⟨g, hg, h⟩ := binv h
    rw [← signed_eq _ rfl _ (Nat.le_trans (body_of hr hw (by omega)) (by omega))] at hs
    rw [method_sign_eq (getD_wf hw 1 (by omega))] at h1
    have h1 := must_some.1 h1
    unfold RC.read
    rw [hx]
    simp only [Option.bind_some]
    rw [show RC.parts 48 x = some l from hl]
    simp only [Option.bind_some]
    rw [must_t (by rw [h1]; simp; omega)]
    simp only [Option.bind_some]
    rw [hg]
    simp only [Option.bind_some]
    rw [hs]
    exact h
/-- The document's reading of a certificate is the program's. -/
theorem rparse_eq (b : List UInt8) : Cert.parse b = if 8192 < b.length then .no 10 else if Der.check b ≠ 0 then .no (Der.check b) else
    match RC.read b with
    | none => .no 9
    | some p => .yes p.1 p.2 := by
  unfold Cert.parse
  by_cases h : 8192 < b.length
  · rw [if_pos h, if_pos h]
  · rw [if_neg h, if_neg h, read_eq b (by omega)]
    split
    · rfl
    · cases Cert.read b <;> rfl
end Go.Proofs.Ytmnekhliblkibaa
