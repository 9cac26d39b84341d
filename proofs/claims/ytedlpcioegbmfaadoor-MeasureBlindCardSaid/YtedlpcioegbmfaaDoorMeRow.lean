/- The row of places: read; Ranges's answer, its error by name. -/
import Derived.Test.YtedlpcioegbmfaaDoorMeEq
import Derived.BigQuiet
import Derived.Deep.QuietTactic
namespace Go.Proofs.YtedlpcioegbmfaaDoor
open Go.RowKit
set_option maxRecDepth 100000
set_option linter.unusedVariables false
set_option linter.unusedSimpArgs false
theorem placeC_get : ∀ (l : List (Nat × Nat)) (k : Nat) (x : Nat × Nat), l[k]? = some x → (l.flatMap placeC)[k * 2]? = some (.int .i64 (x.1 : Int)) ∧ (l.flatMap placeC)[k * 2 + 1]? = some (.int .i64 (x.2 : Int))
  | [], k, x, h => by cases h
  | y :: l, 0, x, h => by
    simp only [List.getElem?_cons_zero, Option.some.injEq] at h
    subst h
    exact ⟨rfl, rfl⟩
  | y :: l, k + 1, x, h => by
    have ih := placeC_get l k x (by simpa using h)
    rw [List.flatMap_cons, show (k + 1) * 2 = (k * 2) + 1 + 1 by omega]
    exact ⟨ih.1, ih.2⟩
/-- A row of places is read. -/
structure RdP (w : World) (B : Nat) (A : Option Addr) (n c : Nat) (l : List (Nat × Nat)) : Prop where
  len : l.length = n
  cap : n ≤ c
  capm : c ≤ 9223372036854775807
  spot : 0 < n → ∃ b o, A = some ⟨b, o, none⟩ ∧ b < B
  rds : Reads w B 2 A n (l.flatMap placeC)
section
variable {w w' : World} {B B' n c : Nat} {A : Option Addr} {l : List (Nat × Nat)}
theorem RdP.keep (h : RdP w B A n c l) (hk : ∀ p : Addr, p.block < B → w'.cell? p = w.cell? p) : RdP w' B A n c l := ⟨h.len, h.cap, h.capm, h.spot, h.rds.keep hk⟩
theorem RdP.below (h : RdP w B A n c l) (hb : Below B w w') : RdP w' B A n c l := h.keep fun _ hp => hb.cell hp
theorem RdP.more (h : RdP w B A n c l) (hB : B ≤ B') : RdP w B' A n c l :=
  ⟨h.len, h.cap, h.capm, fun hc => by obtain ⟨b, o, e, hb⟩ := h.spot hc; exact ⟨b, o, e, by omega⟩, h.rds.more hB⟩
theorem RdP.get (h : RdP w B A n c l) {k : Nat} (hk : k < n) : ∃ b o x, A = some ⟨b, o, none⟩ ∧ b < B ∧ l[k]? = some x ∧ w.cell? ⟨b, o + k * 2, none⟩ = some (.int .i64 (x.1 : Int)) ∧ w.cell? ⟨b, o + k * 2 + 1, none⟩ = some (.int .i64 (x.2 : Int)) := by
  obtain ⟨b, o, rfl, hb⟩ := h.spot (by omega)
  obtain ⟨ad, e, _, hc⟩ := h.rds.2 (by omega)
  injection e with e
  subst e
  have hx : l[k]? = some (l[k]'(by have := h.len; omega)) := List.getElem?_eq_getElem _
  obtain ⟨g1, g2⟩ := placeC_get l k _ hx
  have c1 := hc _ _ g1
  have c2 := hc _ _ g2
  rw [Addr.add_lit] at c1 c2
  exact ⟨b, o, _, rfl, hb, hx, c1, c2⟩
end
theorem OwnC.rdP {w : World} {lo hi n : Nat} {v : Value} {l : List (Nat × Nat)} (h : OwnC 43 2 w lo hi v n (l.flatMap placeC)) : ∃ A c, v = .slice A n c ∧ RdP w hi A n c l := by
  obtain ⟨A, c, rfl, h1, h2, h3, h4⟩ := h.shape
  have hl : l.length = n := by have := h4.1; rw [placeC_len] at this; omega
  refine ⟨A, c, rfl, hl, h1, h2, fun hn => ?_, h4⟩
  obtain ⟨g, cap, e, hg, _⟩ := h.1.form hn
  injection e with e1 e2 e3
  subst e1
  obtain ⟨ad, e, hlt, _⟩ := h4.2 hn
  injection e with e
  subst e
  exact ⟨g, 0, rfl, hlt⟩
/-- What Ranges answers, by names. -/
theorem ranges_out (A : Option Addr) (n c : Nat) (xs : List UInt8) (w : World) (hr : Rd w w.heap.size A n c xs) (hn : n ≤ 16777216) :
    Calls Tryd.prog 11 #[.slice A n c] w fun e w' => Below w.heap.size w w' ∧ ∃ (R : Option Addr) (k rc er : Nat), e = .returned (.tuple #[.slice R k rc, .int .i64 (er : Int)]) ∧ Pe.err xs = er ∧ (er ≠ 0 → k = 0) ∧ (er = 0 → RdP w' w'.heap.size R k rc (Pe.ranges xs)) := by
  refine (meRanges_any A n c xs w hr hn).mono ?_
  rintro e w' ⟨hb, v, rfl, h0, h1⟩
  refine ⟨hb, ?_⟩
  by_cases he : Pe.err xs = 0
  · obtain ⟨R, rc, rfl, hP⟩ := (h1 he).rdP
    exact ⟨R, _, rc, 0, by rw [he], he, fun h => absurd rfl h, fun _ => hP⟩
  · rw [h0 he]
    exact ⟨none, 0, 0, _, rfl, rfl, fun _ => rfl, fun h => absurd h he⟩
theorem run_fromto {w : World} {B n c : Nat} {A : Option Addr} {xs : List UInt8} (h : Rd w B A n c xs) (lo hi : Nat) (h1 : lo ≤ hi) (h2 : hi ≤ n) :
    ∃ A1 m c1, Rd w B A1 m c1 ((xs.take hi).drop lo) ∧ m ≤ hi ∧ (∀ W, (Instr.sliceAt 22 (.slice A n c) (some (.int .i64 (lo : Int))) (some (.int .i64 (hi : Int))) none).run Tryd.prog W = .ok (.slice A1 m c1) W) ∧
      ∀ W, (Instr.slice 22 (.slice A n c) (some (.int .i64 (lo : Int))) (some (.int .i64 (hi : Int))) none).run Tryd.prog W = .ok (.slice A1 m c1) W := by
  have hc := h.cap
  refine ⟨_, _, _, h.cut h1 h2, Nat.sub_le _ _, fun W => ?_, fun W => ?_⟩ <;> simp [go_sem, Tryd.underlying22, show (lo : Int) ≤ hi by omega, show (hi : Int) ≤ c by omega]
theorem hashedOf_snoc {xs : List UInt8} {l : List (Nat × Nat)} {j lo hi : Nat} (h : l[j]? = some (lo, hi)) : Pe.hashedOf xs (l.take (j + 1)) = Pe.hashedOf xs (l.take j) ++ (xs.take hi).drop lo := by
  obtain ⟨hj, e⟩ := List.getElem?_eq_some_iff.1 h
  unfold Pe.hashedOf
  rw [List.take_succ_eq_append_getElem hj, List.flatMap_append, e]
  simp [Pe.cutR, List.drop_take]
theorem eqB_iff (xs ys : List UInt8) : eqB xs ys = true ↔ xs = ys := by simp [eqB]
/-- A guarded load of a whole image. -/
theorem wpList_load_img_g {ops : Array Oper} {rest : List Oper} {op : Oper} {a : Act} {w : World} {Q : Exit → Act → World → Prop} (x : Operand) (ho : op.op = .load 34 x)
    (g : Nat) (C : IV) (hx : a.eval x = .pointer (some ⟨g, 0, none⟩)) (hB : Bi w g C) (hw : Region.wanted op (yielded ops a.tmps) = true) (h : wpList Tryd.prog ops Q rest (a.put op.dst C.val) w) : wpList Tryd.prog ops Q (op :: rest) a w := by
  refine wpList_step fun K hK => ?_
  rw [if_pos hw]
  unfold Oper.wp execOp
  simp only [ho, hx, Instr.loadAt, Instr.sureAddr, Sem.run_bind, Sem.run_pure, Result.andThen_ok, load_img hB]
  exact hK _ _ h
/-- A load of a whole variable in a quiet region. -/
theorem quiet_load_t {C : World → Prop} {K : Act → Prop} {o : Oper} {a : Act} (T : TypeId) (x : Operand) (ho : o.op = .load T x) (ad : Addr) (v : Value) (hx : a.eval x = .pointer (some ad)) (hl : ∀ w, C w → (loadVar T ad).run Tryd.prog w = .ok v w) (hk : K (a.put o.dst v)) : o.quiet Tryd.prog a C K :=
  ⟨v, fun w hw => by
    unfold Oper.quietAt execOp
    simp only [ho, hx, Instr.loadAt, Instr.sureAddr, Sem.run_bind, Sem.run_pure, Result.andThen_ok, hl w hw]
    exact ⟨rfl, rfl⟩, hk⟩
theorem pair_size : (Tryd.prog.info? 43).map (·.size) = some 2 := rfl
/-- A place is loaded whole. -/
theorem load_pair {w : World} {b o : Nat} {x : Nat × Nat} (h1 : w.cell? ⟨b, o, none⟩ = some (.int .i64 (x.1 : Int))) (h2 : w.cell? ⟨b, o + 1, none⟩ = some (.int .i64 (x.2 : Int))) :
    (loadVar 43 ⟨b, o, none⟩).run Tryd.prog w = .ok (.agg #[.int .i64 (x.1 : Int), .int .i64 (x.2 : Int)]) w :=
  run_loadVar_mid (P := Tryd.prog) w b o 43 [.int .i64 (x.1 : Int), .int .i64 (x.2 : Int)] _ (fun j v hv => by
    rcases j with _ | _ | j
    · simp at hv; subst hv; exact h1
    · simp at hv; subst hv; exact h2
    · simp at hv) Tryd.underlying43 rfl rfl
/-- Two places compared. -/
theorem eq_pair (a b a' b' : Int) (W : World) : (Op.equalIn 10000 43 (.agg #[.int .i64 a, .int .i64 b]) (.agg #[.int .i64 a', .int .i64 b'])).run Tryd.prog W = .ok (decide (a = a' ∧ b = b')) W := by
  obtain ⟨i, hi, hz⟩ : ∃ i, Tryd.prog.info? 3 = some i ∧ Tryd.prog.cellsOf 3 = 1 := ⟨_, rfl, rfl⟩
  rw [run_equalIn_array W 9999 (n := 2) (e := 3) _ _ Tryd.underlying43 hi, hz]
  have := eqItems_ints (k := .i64) (e := 3) Tryd.underlying3 rfl 9998 [a, b] [a', b'] W (List.range 2) (fun i hi => by rw [List.mem_range] at hi; simp; omega)
  rw [all_range_eq _ _ 2 rfl rfl] at this
  refine this.trans ?_
  simp
end Go.Proofs.YtedlpcioegbmfaaDoor
