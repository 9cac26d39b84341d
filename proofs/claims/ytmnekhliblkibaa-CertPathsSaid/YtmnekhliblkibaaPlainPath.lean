/- Paths: what a case's certificate with one constraint is read as. Plain Lean. -/
import Derived.Test.YtmnekhliblkibaaPlainW
namespace Go.Proofs.Ytmnekhliblkibaa
open Go.RowKit
set_option maxRecDepth 100000
set_option linter.unusedVariables false
set_option linter.unusedSimpArgs false

theorem flags_one (x : El) : Cert.flags [x] = (Cert.extension Fl.bare x).bind fun p => some p.1 := by
  unfold Cert.flags
  cases h : Cert.extension Fl.bare x with
  | none => rw [exts_none h]; rfl
  | some p =>
    rw [exts_cons h]
    rfl
def Ref.two16 (p : Nat) : List UInt8 := [UInt8.ofNat (p / 256 % 256), UInt8.ofNat (p % 256)]
theorem two16_be (p : Nat) (h : p < 65536) : Der.be (Ref.two16 p) = p := by
  simp only [Der.be, Ref.two16, List.foldl_cons, List.foldl_nil, UInt8.toNat_ofNat']
  omega
theorem putInt_two16 (p : Nat) : (Der.putInt (Ref.two16 p)).length ≤ 3 := by
  have := putInt_len (Ref.two16 p)
  have h4 : (Ref.two16 p).length = 2 := rfl
  omega
def X.lim (ca told : Bool) (p : Nat) : List (List UInt8) := (if ca then [[1, 1, 255]] else []) ++ (if told then [Der.write 2 (Der.putInt (Ref.two16 p))] else [])
def E.lim (ca told : Bool) (p : Nat) : List El := (if ca then [E.yes] else []) ++ (if told then [El.mk 2 (Der.putInt (Ref.two16 p))] else [])
def E.limb (ca told : Bool) (p : Nat) : El := El.mk 48 (raws (E.lim ca told p))
theorem lim_raw (ca told : Bool) (p : Nat) : (E.lim ca told p).map (·.2.2) = X.lim ca told p := by
  have hy : E.yes.2.2 = [1, 1, 255] := by decide +kernel
  unfold E.lim X.lim
  cases ca <;> cases told <;> simp [hy, mk_raw]
theorem limb_raw (ca told : Bool) (p : Nat) : (E.limb ca told p).2.2 = Ref.seq (X.lim ca told p) := by
  unfold E.limb Ref.seq
  rw [mk_raw, ← lim_raw]
  rfl
theorem lim_wf (ca told : Bool) (p : Nat) : (∀ y ∈ E.lim ca told p, El.wf y) ∧ (raws (E.lim ca told p)).length ≤ 20 := by
  have h1 := write_lt 2 (Der.putInt (Ref.two16 p)) 3 (putInt_two16 p) (by omega)
  have hy : E.yes.2.2.length = 3 := by decide +kernel
  have w1 : El.wf E.yes := El.mk_wf (by decide) (by decide)
  have w2 : El.wf (El.mk 2 (Der.putInt (Ref.two16 p))) := El.mk_wf (by decide) (by have := putInt_two16 p; omega)
  unfold E.lim
  cases ca <;> cases told <;> simp only [Bool.false_eq_true, if_false, if_true, List.nil_append, List.append_nil, List.cons_append]
  · exact ⟨fun y hy => by simp at hy, by simp [raws_nil]⟩
  · exact ⟨fun y hy => by rw [List.mem_singleton.1 hy]; exact w2, by rw [raws_cons, raws_nil, List.append_nil, mk_raw]; omega⟩
  · exact ⟨fun y hy => by rw [List.mem_singleton.1 hy]; exact w1, by rw [raws_cons, raws_nil, List.append_nil]; omega⟩
  · refine ⟨fun y hy' => ?_, by rw [raws_cons, raws_cons, raws_nil, List.append_nil, List.length_append, mk_raw]; omega⟩
    simp only [List.mem_cons, List.not_mem_nil, or_false] at hy'
    rcases hy' with rfl | rfl
    · exact w1
    · exact w2
theorem limb_wf (ca told : Bool) (p : Nat) : El.wf (E.limb ca told p) ∧ (E.limb ca told p).2.2.length ≤ 40 := by
  have h := lim_wf ca told p
  have h1 := write_lt 48 (raws (E.lim ca told p)) 20 h.2 (by omega)
  exact ⟨El.mk_wf (by decide) (by omega), by unfold E.limb; rw [mk_raw]; omega⟩
def Lim.bad (ca told : Bool) (p : Nat) : Bool := told && (!ca || decide (255 < p))
theorem lim_constraints (ca told : Bool) (p : Nat) (hp : p < 65536) : Cert.constraints Fl.bare (E.limb ca told p) = if Lim.bad ca told p then none else some ⟨ca, if told then (p : Int) else -1, -1, true⟩ := by
  have h := (lim_wf ca told p).1
  have hlen : (E.lim ca told p).length ≤ 2 := by unfold E.lim; cases ca <;> cases told <;> simp
  unfold Cert.constraints
  rw [parts_mk (x := E.limb ca told p) (L := E.lim ca told p) (by rfl) rfl h (by omega) (by omega)]
  simp only [Option.bind_some]
  unfold E.lim Lim.bad
  cases ca <;> cases told <;> simp only [Bool.false_eq_true, if_false, if_true, List.nil_append, List.append_nil, List.cons_append, List.length_nil, List.length_cons, List.getD_cons_zero, List.getD_cons_succ, Bool.false_and, Bool.true_and, Bool.not_false, Bool.not_true, Bool.true_or, Bool.false_or]
  · rfl
  · have : Cert.yes (El.mk 2 (Der.putInt (Ref.two16 p))) = false := by
      unfold Cert.yes
      rw [mk_raw]
      simp [Der.write]
    rw [if_neg (by omega), this, must_f rfl]
    rfl
  · rw [if_neg (by omega), yes_yes, must_t rfl]
    rfl
  · rw [if_neg (by omega), yes_yes, must_t rfl]
    simp only [Option.bind_some]
    rw [if_neg (by omega)]
    by_cases h255 : 255 < p
    · rw [if_pos (by simpa using h255)]
      have : Cert.small 256 (El.mk 2 (Der.putInt (Ref.two16 p))) = none := by
        unfold Cert.small
        rw [number_mk (int_putInt _)]
        simp only [Option.bind_some, be_trim, two16_be p hp]
        rw [must_f (by simp; omega)]
        rfl
      rw [this]
      rfl
    · rw [if_neg (by simpa using h255), small_mk _ (by rw [two16_be p hp]; omega), two16_be p hp]
      rfl
theorem paths_parse (k : Kase) (hk : k.path < 256) (ca told : Bool) (p : Nat) (hp : p < 65536) :
    (Lim.bad ca told p = true ∧ Cert.parse (Ref.wr (Ref.seq (k.els.map (·.2.2) ++ X.tail [X.ext [85, 29, 19] true (Ref.seq (X.lim ca told p))])) (k.sig.take 100)) = .no 9) ∨
    (Lim.bad ca told p = false ∧ ∃ s, Cert.parse (Ref.wr (Ref.seq (k.els.map (·.2.2) ++ X.tail [X.ext [85, 29, 19] true (Ref.seq (X.lim ca told p))])) (k.sig.take 100)) = .yes s (k.sig.take 100) ∧ s.fl.ca = ca ∧ s.fl.path = if told then (p : Int) else -1) := by
  have hl := limb_wf ca told p
  have hx := extq_mk (f := Fl.bare) (q := true) (body := (E.limb ca told p).2.2) oid_basic (by simp) (by omega)
  obtain ⟨t, ht⟩ := with_parse k hk [E.extq [85, 29, 19] true (E.limb ca told p).2.2] (by simp) (fun y hy => by rw [List.mem_singleton.1 hy]; exact hx.2.1) (fun y hy => by rw [List.mem_singleton.1 hy]; exact hx.2.2.1) (by rw [raws_cons, raws_nil, List.append_nil]; have := hx.2.2.2; omega) (by simp)
  rw [show ([E.extq [85, 29, 19] true (E.limb ca told p).2.2] : List El).map (·.2.2) = [(E.extq [85, 29, 19] true (E.limb ca told p).2.2).2.2] from rfl, extq_raw, limb_raw, flags_one] at ht
  rw [limb_raw] at hx
  rw [ht, hx.1]
  have hto : Cert.told Fl.bare [2, 5, 29, 19] ([El.mk 6 [85, 29, 19]] ++ (if true then [E.yes] else []) ++ [El.mk 4 (Ref.seq (X.lim ca told p))]) (if true then 2 else 1) = Cert.constraints Fl.bare (E.limb ca told p) := by
    unfold Cert.told
    rw [if_pos rfl, extq_last, ← limb_raw, only_mk hl.1]
    rfl
  rw [hto, lim_constraints ca told p hp]
  cases hb : Lim.bad ca told p with
  | true => left; exact ⟨rfl, rfl⟩
  | false => right; exact ⟨rfl, _, rfl, rfl, rfl⟩
theorem paths_more (k : Kase) (hk : k.path < 256) (ca told : Bool) (p : Nat) :
    Cert.parse (Ref.wr (Ref.seq (k.els.map (·.2.2) ++ X.tail [X.ext [85, 29, 19] true (Ref.seq (X.lim ca told p) ++ [5, 0])])) (k.sig.take 100)) = .no 9 := by
  have hl := limb_wf ca told p
  have hx := extq_mk (f := Fl.bare) (q := true) (body := (E.limb ca told p).2.2 ++ [5, 0]) oid_basic (by simp) (by rw [List.length_append]; simp; omega)
  obtain ⟨t, ht⟩ := with_parse k hk [E.extq [85, 29, 19] true ((E.limb ca told p).2.2 ++ [5, 0])] (by simp) (fun y hy => by rw [List.mem_singleton.1 hy]; exact hx.2.1) (fun y hy => by rw [List.mem_singleton.1 hy]; exact hx.2.2.1) (by rw [raws_cons, raws_nil, List.append_nil]; have := hx.2.2.2; omega) (by simp)
  rw [show ([E.extq [85, 29, 19] true ((E.limb ca told p).2.2 ++ [5, 0])] : List El).map (·.2.2) = [(E.extq [85, 29, 19] true ((E.limb ca told p).2.2 ++ [5, 0])).2.2] from rfl, extq_raw, flags_one, hx.1] at ht
  rw [limb_raw] at ht
  rw [ht]
  have hto : Cert.told Fl.bare [2, 5, 29, 19] ([El.mk 6 [85, 29, 19]] ++ (if true then [E.yes] else []) ++ [El.mk 4 (Ref.seq (X.lim ca told p) ++ [5, 0])]) (if true then 2 else 1) = none := by
    unfold Cert.told
    rw [if_pos rfl, extq_last, ← limb_raw]
    have : Cert.only ((E.limb ca told p).2.2 ++ [5, 0]) = none := by
      unfold Cert.only
      rw [elem_wf hl.1]
      rfl
    rw [this]
    rfl
  rw [hto]
  rfl
end Go.Proofs.Ytmnekhliblkibaa
