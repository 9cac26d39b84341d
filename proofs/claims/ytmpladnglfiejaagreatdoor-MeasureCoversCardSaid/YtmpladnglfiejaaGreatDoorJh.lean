/- Joined of: MeEq MeRow. -/
import Derived.Test.YtmpladnglfiejaaGreatDoorShA
import Derived.Test.YtmpladnglfiejaaGreatDoorMeR4
import Derived.ChangeKeysEq
import Derived.BigQuiet
import Derived.Deep.QuietTactic
section
/- Arrays of numbers: two compared; a digest stored into a variable. -/
namespace Go.Proofs.YtmpladnglfiejaaGreatDoor
open Go.RowKit
set_option maxRecDepth 100000
set_option linter.unusedVariables false
set_option linter.unusedSimpArgs false
theorem eqItems_ints {k : IntKind} {e : TypeId} (hu : Tryz.prog.underlying e = some (.int k)) (hp : Tryz.prog.plainKey e = true) (d : Nat) (xs ys : List Int) (W : World) :
    ∀ l : List Nat, (∀ i ∈ l, i < xs.length ∧ i < ys.length) → (Op.eqItems (d + 1) e 1 (xs.map (Value.int k)).toArray (ys.map (Value.int k)).toArray l).run Tryz.prog W = .ok (l.all fun i => decide (xs[i]? = ys[i]?)) W
  | [], _ => by simp [Op.eqItems]
  | i :: l, h => by
    obtain ⟨h1, h2⟩ := h i (by simp)
    have p1 := run_part_plain (P := Tryz.prog) W hp (xs := (xs.map (Value.int k)).toArray) (off := i) (v := .int k xs[i]) (by simp [h1])
    have p2 := run_part_plain (P := Tryz.prog) W hp (xs := (ys.map (Value.int k)).toArray) (off := i) (v := .int k ys[i]) (by simp [h2])
    have ih := eqItems_ints hu hp d xs ys W l (fun j hj => h j (by simp [hj]))
    simp only [Op.eqItems, Sem.run_bind, Nat.mul_one, p1, p2, Result.andThen_ok, run_equalIn_int W d e k k _ _ hu, List.all_cons]
    by_cases hc : xs[i] = ys[i]
    · rw [show (xs[i] == ys[i]) = true from by simp [hc]]
      simp only [Bool.not_true, Bool.false_eq_true, if_false, ih]
      simp [h1, h2, hc]
    · rw [show (xs[i] == ys[i]) = false from by simp [hc]]
      simp [h1, h2, hc]
theorem all_range_eq (xs ys : List Int) (n : Nat) (h1 : xs.length = n) (h2 : ys.length = n) : ((List.range n).all fun i => decide (xs[i]? = ys[i]?)) = decide (xs = ys) := by
  rw [Bool.eq_iff_iff]
  simp only [List.all_eq_true, List.mem_range, decide_eq_true_eq]
  constructor
  · intro h
    refine List.ext_getElem? fun i => ?_
    by_cases hi : i < n
    · exact h i hi
    · rw [List.getElem?_eq_none (by omega), List.getElem?_eq_none (by omega)]
  · rintro rfl i _
    rfl
/-- Two digests compared. -/
theorem eq_b32 (S T : List Int) (hS : S.length = 32) (hT : T.length = 32) (W : World) : (Op.equalIn 10000 25 (.agg (S.map u8v).toArray) (.agg (T.map u8v).toArray)).run Tryz.prog W = .ok (decide (S = T)) W := by
  obtain ⟨i, hi, hz⟩ : ∃ i, Tryz.prog.info? 5 = some i ∧ Tryz.prog.cellsOf 5 = 1 := ⟨_, rfl, rfl⟩
  rw [run_equalIn_array W 9999 (n := 32) (e := 5) _ _ Tryz.underlying25 hi, hz]
  have := eqItems_ints (k := .u8) (e := 5) Tryz.underlying5 rfl 9998 S T W (List.range 32) (fun i hi => by rw [List.mem_range] at hi; omega)
  unfold u8v
  rw [this, all_range_eq S T 32 hS hT]
theorem eql_b32 (S T : List Int) (hS : S.length = 32) (hT : T.length = 32) (W : World) : (binOp .eql 25 (.agg (S.map u8v).toArray) (.agg (T.map u8v).toArray)).run Tryz.prog W = .ok (.bool (decide (S = T))) W := by
  rw [run_eql_struct, eq_b32 S T hS hT]
  rfl
theorem neq_b32 (S T : List Int) (hS : S.length = 32) (hT : T.length = 32) (W : World) : (binOp .neq 25 (.agg (S.map u8v).toArray) (.agg (T.map u8v).toArray)).run Tryz.prog W = .ok (.bool (!decide (S = T))) W := by
  rw [run_neq_struct, eq_b32 S T hS hT]
  rfl
/-- The digest that is told. -/
def dig (xs : List UInt8) : List Int := if Pe.err xs = 0 then Sha.sum (Pe.hashed xs) else List.replicate 32 0
theorem dig_len (xs : List UInt8) : (dig xs).length = 32 := by
  unfold dig
  split
  · unfold Sha.sum; rw [List.length_map, List.length_range]
  · rfl
theorem dig_zero {xs : List UInt8} {S : List Int} (h : dig xs = S) (he : Pe.err xs ≠ 0) : S = List.replicate 32 0 := by
  rw [← h]
  exact if_neg he
theorem eq_z32 (S : List Int) (h : S = List.replicate 32 0) (W : World) : (Op.equalIn 10000 25 (.agg (S.map u8v).toArray) (.agg #[.int .u8 0, .int .u8 0, .int .u8 0, .int .u8 0, .int .u8 0, .int .u8 0, .int .u8 0, .int .u8 0, .int .u8 0, .int .u8 0, .int .u8 0, .int .u8 0, .int .u8 0, .int .u8 0, .int .u8 0, .int .u8 0, .int .u8 0, .int .u8 0, .int .u8 0, .int .u8 0, .int .u8 0, .int .u8 0, .int .u8 0, .int .u8 0, .int .u8 0, .int .u8 0, .int .u8 0, .int .u8 0, .int .u8 0, .int .u8 0, .int .u8 0, .int .u8 0])).run Tryz.prog W = .ok true W := by
  subst h
  have h := eq_b32 (List.replicate 32 0) (List.replicate 32 0) rfl rfl W
  rw [show decide (List.replicate 32 (0 : Int) = List.replicate 32 0) = true from by simp] at h
  exact h
theorem ne_z32 (S : List Int) (hl : S.length = 32) (h : S ≠ List.replicate 32 0) (W : World) : (Op.equalIn 10000 25 (.agg (S.map u8v).toArray) (.agg #[.int .u8 0, .int .u8 0, .int .u8 0, .int .u8 0, .int .u8 0, .int .u8 0, .int .u8 0, .int .u8 0, .int .u8 0, .int .u8 0, .int .u8 0, .int .u8 0, .int .u8 0, .int .u8 0, .int .u8 0, .int .u8 0, .int .u8 0, .int .u8 0, .int .u8 0, .int .u8 0, .int .u8 0, .int .u8 0, .int .u8 0, .int .u8 0, .int .u8 0, .int .u8 0, .int .u8 0, .int .u8 0, .int .u8 0, .int .u8 0, .int .u8 0, .int .u8 0])).run Tryz.prog W = .ok false W := by
  have h' := eq_b32 S (List.replicate 32 0) hl rfl W
  rw [show decide (S = List.replicate 32 (0 : Int)) = false from decide_eq_false h] at h'
  exact h'
def digV (xs : List UInt8) : Value := .agg ((dig xs).map u8v).toArray
def zeroV : Value := .agg ((List.replicate 32 0).map u8v).toArray
abbrev Bd (w : World) (g : Nat) (S : List Int) : Prop := Blk w g 25 (S.map u8v).toArray
theorem wpList_store_b32 {ops : Array Oper} {rest : List Oper} {op : Oper} {a : Act} {w : World} {Q : Exit → Act → World → Prop} (hgd : op.guard = none) (x y : Operand) (ho : op.op = .store 25 x y)
    (g : Nat) (S0 S : List Int) (h0 : S0.length = 32) (hS : S.length = 32) (hx : a.eval x = .pointer (some ⟨g, 0, none⟩)) (hy : a.eval y = .agg (S.map u8v).toArray) (hB : Bd w g S0)
    (h : ∀ w', Bd w' g S → w.grownBy w' (some g) → wpList Tryz.prog ops Q rest (a.put op.dst undef) w') : wpList Tryz.prog ops Q (op :: rest) a w :=
  wpList_store_row hgd 25 x y ho _ _ _ hx hy (store_b32 h0 hS hB) (h _ (setRow_blk hB).1 (setRow_blk hB).2)
theorem wpList_load_b32 {ops : Array Oper} {rest : List Oper} {op : Oper} {a : Act} {w : World} {Q : Exit → Act → World → Prop} (hgd : op.guard = none) (x : Operand) (ho : op.op = .load 25 x)
    (g : Nat) (S : List Int) (hS : S.length = 32) (hx : a.eval x = .pointer (some ⟨g, 0, none⟩)) (hB : Bd w g S)
    (h : wpList Tryz.prog ops Q rest (a.put op.dst (.agg (S.map u8v).toArray)) w) : wpList Tryz.prog ops Q (op :: rest) a w :=
  wpList_load_row hgd 25 x ho _ _ hx (load_b32 hS hB) h
/-- A guarded load of a digest. -/
theorem wpList_load_b32_g {ops : Array Oper} {rest : List Oper} {op : Oper} {a : Act} {w : World} {Q : Exit → Act → World → Prop} (x : Operand) (ho : op.op = .load 25 x)
    (g : Nat) (S : List Int) (hS : S.length = 32) (hx : a.eval x = .pointer (some ⟨g, 0, none⟩)) (hB : Bd w g S) (hw : Region.wanted op (yielded ops a.tmps) = true)
    (h : wpList Tryz.prog ops Q rest (a.put op.dst (.agg (S.map u8v).toArray)) w) : wpList Tryz.prog ops Q (op :: rest) a w := by
  refine wpList_step fun K hK => ?_
  rw [if_pos hw]
  exact wp_load_row 25 x ho _ _ hx (load_b32 hS hB) (hK _ _ h)
/-- The two variables into which a digest and its image are put. -/
def z32 : List Int := List.replicate 32 0
def dW (w : World) : World := (w.alloc (.cells (z32.map u8v).toArray 25)).alloc (.cells IV.zero.cells 30)
theorem dW_b (w : World) : Bd (dW w) w.heap.size z32 := (Blk.new w _ _).alloc _
theorem dW_i (w : World) : Bi (dW w) (w.heap.size + 1) IV.zero := by
  have h := Blk.new (w.alloc (.cells (z32.map u8v).toArray 25)) 30 IV.zero.cells
  rw [World.size_alloc] at h
  exact h
theorem dW_below (w : World) : Below w.heap.size w (dW w) := ((Below.refl _ _).alloc (Nat.le_refl _) _).alloc (by simp) _
/-- What is kept behind the statement d, im, e := measure.Digest(..). -/
structure DigAt (xs : List UInt8) (w : World) (g i : Nat) (S : List Int) (C : IV) (W : World) : Prop where
  below : Below w.heap.size w W
  sum : Bd W g S
  img : Bi W i C
  lg : w.heap.size ≤ g
  li : w.heap.size ≤ i
  gl : g < W.heap.size
  il : i < W.heap.size
theorem DigAt.later {xs : List UInt8} {w : World} {g i : Nat} {S : List Int} {C : IV} {W X : World} (h : DigAt xs w g i S C W) (hb : Below W.heap.size W X) : DigAt xs w g i S C X :=
  ⟨h.below.trans (hb.mono h.below.size), h.sum.below hb h.gl, h.img.below hb h.il, h.lg, h.li, Nat.lt_of_lt_of_le h.gl hb.size, Nat.lt_of_lt_of_le h.il hb.size⟩
theorem digAt {xs : List UInt8} {w w1 w2 w3 : World} {S : List Int} {C : IV} (h1 : Below w.heap.size w w1) (g1 : (dW w1).grownBy w2 (some w1.heap.size)) (b1 : Bd w2 w1.heap.size S) (g2 : w2.grownBy w3 (some (w1.heap.size + 1))) (b2 : Bi w3 (w1.heap.size + 1) C) :
    DigAt xs w w1.heap.size (w1.heap.size + 1) S C w3 := by
  have hb : Below w1.heap.size w1 w3 := ((dW_below w1).grown g1 (dW_below w1).size (fun j e => by injection e with e; omega)).grown g2 (Nat.le_trans (dW_below w1).size g1.size) (fun j e => by injection e with e; omega)
  have b1' : Bd w3 w1.heap.size S := b1.grown g2 (fun e => by injection e with e; omega)
  exact ⟨h1.trans (hb.mono h1.size), b1', b2, h1.size, by have := h1.size; omega, b1'.lt, b2.lt⟩
theorem digBelow {w1 w2 w3 : World} (g1 : (dW w1).grownBy w2 (some w1.heap.size)) (g2 : w2.grownBy w3 (some (w1.heap.size + 1))) : Below w1.heap.size w1 w3 :=
  ((dW_below w1).grown g1 (dW_below w1).size (fun j e => by injection e with e; omega)).grown g2 (Nat.le_trans (dW_below w1).size g1.size) (fun j e => by injection e with e; omega)
theorem digest_any (A : Option Addr) (n c : Nat) (xs : List UInt8) (w : World) (hr : Rd w w.heap.size A n c xs) (hn : n ≤ 16777216) :
    Calls Tryz.prog 7 #[.slice A n c] w fun e w' => Below w.heap.size w w' ∧ ∃ (S : List Int) (C : IV) (er : Nat), e = .returned (.tuple #[.agg (S.map u8v).toArray, C.val, .int .i64 (er : Int)]) ∧ dig xs = S ∧ Pe.err xs = er ∧ S.length = 32 ∧ C.One ∧ (er ≠ 0 → C = IV.zero) ∧ (er = 0 → ImgOwn xs C w.heap.size w') :=
  (meDigest_any A n c xs w hr hn).mono fun e w' ⟨hb, C, he, h1, h2, h3⟩ => ⟨hb, _, C, _, he, rfl, rfl, dig_len xs, h1, h2, h3⟩
end Go.Proofs.YtmpladnglfiejaaGreatDoor
end

section
/- The row of places: read; Ranges's answer, its error by name. -/
namespace Go.Proofs.YtmpladnglfiejaaGreatDoor
open Go.RowKit
set_option maxRecDepth 100000
set_option linter.unusedVariables false
set_option linter.unusedSimpArgs false
theorem placeC_get : ∀ (l : List (Nat × Nat)) (k : Nat) (x : Nat × Nat), l[k]? = some x → (l.flatMap placeC)[k * 2]? = some (.int .i64 (x.1 : Int)) ∧ (l.flatMap placeC)[k * 2 + 1]? = some (.int .i64 (x.2 : Int))
  | [], k, x, h => by cases h
  | y :: l, 0, x, h => by
    simp only [List.getElem?_cons_zero, Option.some.injEq] at h
    subst h
    exact ⟨rfl, rfl⟩
  | y :: l, k + 1, x, h => by
    have ih := placeC_get l k x (by simpa using h)
    rw [List.flatMap_cons, show (k + 1) * 2 = (k * 2) + 1 + 1 by omega]
    exact ⟨ih.1, ih.2⟩
/-- A row of places is read. -/
structure RdP (w : World) (B : Nat) (A : Option Addr) (n c : Nat) (l : List (Nat × Nat)) : Prop where
  len : l.length = n
  cap : n ≤ c
  capm : c ≤ 9223372036854775807
  spot : 0 < n → ∃ b o, A = some ⟨b, o, none⟩ ∧ b < B
  rds : Reads w B 2 A n (l.flatMap placeC)
section
variable {w w' : World} {B B' n c : Nat} {A : Option Addr} {l : List (Nat × Nat)}
theorem RdP.keep (h : RdP w B A n c l) (hk : ∀ p : Addr, p.block < B → w'.cell? p = w.cell? p) : RdP w' B A n c l := ⟨h.len, h.cap, h.capm, h.spot, h.rds.keep hk⟩
theorem RdP.below (h : RdP w B A n c l) (hb : Below B w w') : RdP w' B A n c l := h.keep fun _ hp => hb.cell hp
theorem RdP.more (h : RdP w B A n c l) (hB : B ≤ B') : RdP w B' A n c l :=
  ⟨h.len, h.cap, h.capm, fun hc => by obtain ⟨b, o, e, hb⟩ := h.spot hc; exact ⟨b, o, e, by omega⟩, h.rds.more hB⟩
theorem RdP.get (h : RdP w B A n c l) {k : Nat} (hk : k < n) : ∃ b o x, A = some ⟨b, o, none⟩ ∧ b < B ∧ l[k]? = some x ∧ w.cell? ⟨b, o + k * 2, none⟩ = some (.int .i64 (x.1 : Int)) ∧ w.cell? ⟨b, o + k * 2 + 1, none⟩ = some (.int .i64 (x.2 : Int)) := by
  obtain ⟨b, o, rfl, hb⟩ := h.spot (by omega)
  obtain ⟨ad, e, _, hc⟩ := h.rds.2 (by omega)
  injection e with e
  subst e
  have hx : l[k]? = some (l[k]'(by have := h.len; omega)) := List.getElem?_eq_getElem _
  obtain ⟨g1, g2⟩ := placeC_get l k _ hx
  have c1 := hc _ _ g1
  have c2 := hc _ _ g2
  rw [Addr.add_lit] at c1 c2
  exact ⟨b, o, _, rfl, hb, hx, c1, c2⟩
end
theorem OwnC.rdP {w : World} {lo hi n : Nat} {v : Value} {l : List (Nat × Nat)} (h : OwnC 39 2 w lo hi v n (l.flatMap placeC)) : ∃ A c, v = .slice A n c ∧ RdP w hi A n c l := by
  obtain ⟨A, c, rfl, h1, h2, h3, h4⟩ := h.shape
  have hl : l.length = n := by have := h4.1; rw [placeC_len] at this; omega
  refine ⟨A, c, rfl, hl, h1, h2, fun hn => ?_, h4⟩
  obtain ⟨g, cap, e, hg, _⟩ := h.1.form hn
  injection e with e1 e2 e3
  subst e1
  obtain ⟨ad, e, hlt, _⟩ := h4.2 hn
  injection e with e
  subst e
  exact ⟨g, 0, rfl, hlt⟩
/-- What Ranges answers, by names. -/
theorem ranges_out (A : Option Addr) (n c : Nat) (xs : List UInt8) (w : World) (hr : Rd w w.heap.size A n c xs) (hn : n ≤ 16777216) :
    Calls Tryz.prog 9 #[.slice A n c] w fun e w' => Below w.heap.size w w' ∧ ∃ (R : Option Addr) (k rc er : Nat), e = .returned (.tuple #[.slice R k rc, .int .i64 (er : Int)]) ∧ Pe.err xs = er ∧ (er ≠ 0 → k = 0) ∧ (er = 0 → RdP w' w'.heap.size R k rc (Pe.ranges xs)) := by
  refine (meRanges_any A n c xs w hr hn).mono ?_
  rintro e w' ⟨hb, v, rfl, h0, h1⟩
  refine ⟨hb, ?_⟩
  by_cases he : Pe.err xs = 0
  · obtain ⟨R, rc, rfl, hP⟩ := (h1 he).rdP
    exact ⟨R, _, rc, 0, by rw [he], he, fun h => absurd rfl h, fun _ => hP⟩
  · rw [h0 he]
    exact ⟨none, 0, 0, _, rfl, rfl, fun _ => rfl, fun h => absurd h he⟩
theorem run_fromto {w : World} {B n c : Nat} {A : Option Addr} {xs : List UInt8} (h : Rd w B A n c xs) (lo hi : Nat) (h1 : lo ≤ hi) (h2 : hi ≤ n) :
    ∃ A1 m c1, Rd w B A1 m c1 ((xs.take hi).drop lo) ∧ m ≤ hi ∧ (∀ W, (Instr.sliceAt 22 (.slice A n c) (some (.int .i64 (lo : Int))) (some (.int .i64 (hi : Int))) none).run Tryz.prog W = .ok (.slice A1 m c1) W) ∧
      ∀ W, (Instr.slice 22 (.slice A n c) (some (.int .i64 (lo : Int))) (some (.int .i64 (hi : Int))) none).run Tryz.prog W = .ok (.slice A1 m c1) W := by
  have hc := h.cap
  refine ⟨_, _, _, h.cut h1 h2, Nat.sub_le _ _, fun W => ?_, fun W => ?_⟩ <;> simp [go_sem, Tryz.underlying22, show (lo : Int) ≤ hi by omega, show (hi : Int) ≤ c by omega]
theorem hashedOf_snoc {xs : List UInt8} {l : List (Nat × Nat)} {j lo hi : Nat} (h : l[j]? = some (lo, hi)) : Pe.hashedOf xs (l.take (j + 1)) = Pe.hashedOf xs (l.take j) ++ (xs.take hi).drop lo := by
  obtain ⟨hj, e⟩ := List.getElem?_eq_some_iff.1 h
  unfold Pe.hashedOf
  rw [List.take_succ_eq_append_getElem hj, List.flatMap_append, e]
  simp [Pe.cutR, List.drop_take]
theorem eqB_iff (xs ys : List UInt8) : eqB xs ys = true ↔ xs = ys := by simp [eqB]
/-- A guarded load of a whole image. -/
theorem wpList_load_img_g {ops : Array Oper} {rest : List Oper} {op : Oper} {a : Act} {w : World} {Q : Exit → Act → World → Prop} (x : Operand) (ho : op.op = .load 30 x)
    (g : Nat) (C : IV) (hx : a.eval x = .pointer (some ⟨g, 0, none⟩)) (hB : Bi w g C) (hw : Region.wanted op (yielded ops a.tmps) = true) (h : wpList Tryz.prog ops Q rest (a.put op.dst C.val) w) : wpList Tryz.prog ops Q (op :: rest) a w := by
  refine wpList_step fun K hK => ?_
  rw [if_pos hw]
  unfold Oper.wp execOp
  simp only [ho, hx, Instr.loadAt, Instr.sureAddr, Sem.run_bind, Sem.run_pure, Result.andThen_ok, load_img hB]
  exact hK _ _ h
/-- A load of a whole variable in a quiet region. -/
theorem quiet_load_t {C : World → Prop} {K : Act → Prop} {o : Oper} {a : Act} (T : TypeId) (x : Operand) (ho : o.op = .load T x) (ad : Addr) (v : Value) (hx : a.eval x = .pointer (some ad)) (hl : ∀ w, C w → (loadVar T ad).run Tryz.prog w = .ok v w) (hk : K (a.put o.dst v)) : o.quiet Tryz.prog a C K :=
  ⟨v, fun w hw => by
    unfold Oper.quietAt execOp
    simp only [ho, hx, Instr.loadAt, Instr.sureAddr, Sem.run_bind, Sem.run_pure, Result.andThen_ok, hl w hw]
    exact ⟨rfl, rfl⟩, hk⟩
theorem pair_size : (Tryz.prog.info? 39).map (·.size) = some 2 := rfl
/-- A place is loaded whole. -/
theorem load_pair {w : World} {b o : Nat} {x : Nat × Nat} (h1 : w.cell? ⟨b, o, none⟩ = some (.int .i64 (x.1 : Int))) (h2 : w.cell? ⟨b, o + 1, none⟩ = some (.int .i64 (x.2 : Int))) :
    (loadVar 39 ⟨b, o, none⟩).run Tryz.prog w = .ok (.agg #[.int .i64 (x.1 : Int), .int .i64 (x.2 : Int)]) w :=
  run_loadVar_mid (P := Tryz.prog) w b o 39 [.int .i64 (x.1 : Int), .int .i64 (x.2 : Int)] _ (fun j v hv => by
    rcases j with _ | _ | j
    · simp at hv; subst hv; exact h1
    · simp at hv; subst hv; exact h2
    · simp at hv) Tryz.underlying39 rfl rfl
/-- Two places compared. -/
theorem eq_pair (a b a' b' : Int) (W : World) : (Op.equalIn 10000 39 (.agg #[.int .i64 a, .int .i64 b]) (.agg #[.int .i64 a', .int .i64 b'])).run Tryz.prog W = .ok (decide (a = a' ∧ b = b')) W := by
  obtain ⟨i, hi, hz⟩ : ∃ i, Tryz.prog.info? 3 = some i ∧ Tryz.prog.cellsOf 3 = 1 := ⟨_, rfl, rfl⟩
  rw [run_equalIn_array W 9999 (n := 2) (e := 3) _ _ Tryz.underlying39 hi, hz]
  have := eqItems_ints (k := .i64) (e := 3) Tryz.underlying3 rfl 9998 [a, b] [a', b'] W (List.range 2) (fun i hi => by rw [List.mem_range] at hi; simp; omega)
  rw [all_range_eq _ _ 2 rfl rfl] at this
  refine this.trans ?_
  simp
end Go.Proofs.YtmpladnglfiejaaGreatDoor
end
