/- Arrays of numbers: two compared; a digest stored into a variable. -/
import Derived.Test.YtedlpcioegbmfaaDoorShA
import Derived.Test.YtedlpcioegbmfaaDoorMeR4
import Derived.ChangeKeysEq
namespace Go.Proofs.YtedlpcioegbmfaaDoor
open Go.RowKit
set_option maxRecDepth 100000
set_option linter.unusedVariables false
set_option linter.unusedSimpArgs false
theorem eqItems_ints {k : IntKind} {e : TypeId} (hu : Tryd.prog.underlying e = some (.int k)) (hp : Tryd.prog.plainKey e = true) (d : Nat) (xs ys : List Int) (W : World) :
    ∀ l : List Nat, (∀ i ∈ l, i < xs.length ∧ i < ys.length) → (Op.eqItems (d + 1) e 1 (xs.map (Value.int k)).toArray (ys.map (Value.int k)).toArray l).run Tryd.prog W = .ok (l.all fun i => decide (xs[i]? = ys[i]?)) W
  | [], _ => by simp [Op.eqItems]
  | i :: l, h => by
    obtain ⟨h1, h2⟩ := h i (by simp)
    have p1 := run_part_plain (P := Tryd.prog) W hp (xs := (xs.map (Value.int k)).toArray) (off := i) (v := .int k xs[i]) (by simp [h1])
    have p2 := run_part_plain (P := Tryd.prog) W hp (xs := (ys.map (Value.int k)).toArray) (off := i) (v := .int k ys[i]) (by simp [h2])
    have ih := eqItems_ints hu hp d xs ys W l (fun j hj => h j (by simp [hj]))
    simp only [Op.eqItems, Sem.run_bind, Nat.mul_one, p1, p2, Result.andThen_ok, run_equalIn_int W d e k k _ _ hu, List.all_cons]
    by_cases hc : xs[i] = ys[i]
    · rw [show (xs[i] == ys[i]) = true from by simp [hc]]
      simp only [Bool.not_true, Bool.false_eq_true, if_false, ih]
      simp [h1, h2, hc]
    · rw [show (xs[i] == ys[i]) = false from by simp [hc]]
      simp [h1, h2, hc]
theorem all_range_eq (xs ys : List Int) (n : Nat) (h1 : xs.length = n) (h2 : ys.length = n) : ((List.range n).all fun i => decide (xs[i]? = ys[i]?)) = decide (xs = ys) := by
  rw [Bool.eq_iff_iff]
  simp only [List.all_eq_true, List.mem_range, decide_eq_true_eq]
  constructor
  · intro h
    refine List.ext_getElem? fun i => ?_
    by_cases hi : i < n
    · exact h i hi
    · rw [List.getElem?_eq_none (by omega), List.getElem?_eq_none (by omega)]
  · rintro rfl i _
    rfl
/-- Two digests compared. -/
theorem eq_b32 (S T : List Int) (hS : S.length = 32) (hT : T.length = 32) (W : World) : (Op.equalIn 10000 31 (.agg (S.map u8v).toArray) (.agg (T.map u8v).toArray)).run Tryd.prog W = .ok (decide (S = T)) W := by
  obtain ⟨i, hi, hz⟩ : ∃ i, Tryd.prog.info? 5 = some i ∧ Tryd.prog.cellsOf 5 = 1 := ⟨_, rfl, rfl⟩
  rw [run_equalIn_array W 9999 (n := 32) (e := 5) _ _ Tryd.underlying31 hi, hz]
  have := eqItems_ints (k := .u8) (e := 5) Tryd.underlying5 rfl 9998 S T W (List.range 32) (fun i hi => by rw [List.mem_range] at hi; omega)
  unfold u8v
  rw [this, all_range_eq S T 32 hS hT]
theorem eql_b32 (S T : List Int) (hS : S.length = 32) (hT : T.length = 32) (W : World) : (binOp .eql 31 (.agg (S.map u8v).toArray) (.agg (T.map u8v).toArray)).run Tryd.prog W = .ok (.bool (decide (S = T))) W := by
  rw [run_eql_struct, eq_b32 S T hS hT]
  rfl
theorem neq_b32 (S T : List Int) (hS : S.length = 32) (hT : T.length = 32) (W : World) : (binOp .neq 31 (.agg (S.map u8v).toArray) (.agg (T.map u8v).toArray)).run Tryd.prog W = .ok (.bool (!decide (S = T))) W := by
  rw [run_neq_struct, eq_b32 S T hS hT]
  rfl
/-- The digest that is told. -/
def dig (xs : List UInt8) : List Int := if Pe.err xs = 0 then Sha.sum (Pe.hashed xs) else List.replicate 32 0
theorem dig_len (xs : List UInt8) : (dig xs).length = 32 := by
  unfold dig
  split
  · unfold Sha.sum; rw [List.length_map, List.length_range]
  · rfl
theorem dig_zero {xs : List UInt8} {S : List Int} (h : dig xs = S) (he : Pe.err xs ≠ 0) : S = List.replicate 32 0 := by
  rw [← h]
  exact if_neg he
theorem eq_z32 (S : List Int) (h : S = List.replicate 32 0) (W : World) : (Op.equalIn 10000 31 (.agg (S.map u8v).toArray) (.agg #[.int .u8 0, .int .u8 0, .int .u8 0, .int .u8 0, .int .u8 0, .int .u8 0, .int .u8 0, .int .u8 0, .int .u8 0, .int .u8 0, .int .u8 0, .int .u8 0, .int .u8 0, .int .u8 0, .int .u8 0, .int .u8 0, .int .u8 0, .int .u8 0, .int .u8 0, .int .u8 0, .int .u8 0, .int .u8 0, .int .u8 0, .int .u8 0, .int .u8 0, .int .u8 0, .int .u8 0, .int .u8 0, .int .u8 0, .int .u8 0, .int .u8 0, .int .u8 0])).run Tryd.prog W = .ok true W := by
  subst h
  have h := eq_b32 (List.replicate 32 0) (List.replicate 32 0) rfl rfl W
  rw [show decide (List.replicate 32 (0 : Int) = List.replicate 32 0) = true from by simp] at h
  exact h
theorem ne_z32 (S : List Int) (hl : S.length = 32) (h : S ≠ List.replicate 32 0) (W : World) : (Op.equalIn 10000 31 (.agg (S.map u8v).toArray) (.agg #[.int .u8 0, .int .u8 0, .int .u8 0, .int .u8 0, .int .u8 0, .int .u8 0, .int .u8 0, .int .u8 0, .int .u8 0, .int .u8 0, .int .u8 0, .int .u8 0, .int .u8 0, .int .u8 0, .int .u8 0, .int .u8 0, .int .u8 0, .int .u8 0, .int .u8 0, .int .u8 0, .int .u8 0, .int .u8 0, .int .u8 0, .int .u8 0, .int .u8 0, .int .u8 0, .int .u8 0, .int .u8 0, .int .u8 0, .int .u8 0, .int .u8 0, .int .u8 0])).run Tryd.prog W = .ok false W := by
  have h' := eq_b32 S (List.replicate 32 0) hl rfl W
  rw [show decide (S = List.replicate 32 (0 : Int)) = false from decide_eq_false h] at h'
  exact h'
def digV (xs : List UInt8) : Value := .agg ((dig xs).map u8v).toArray
def zeroV : Value := .agg ((List.replicate 32 0).map u8v).toArray
abbrev Bd (w : World) (g : Nat) (S : List Int) : Prop := Blk w g 31 (S.map u8v).toArray
theorem wpList_store_b32 {ops : Array Oper} {rest : List Oper} {op : Oper} {a : Act} {w : World} {Q : Exit → Act → World → Prop} (hgd : op.guard = none) (x y : Operand) (ho : op.op = .store 31 x y)
    (g : Nat) (S0 S : List Int) (h0 : S0.length = 32) (hS : S.length = 32) (hx : a.eval x = .pointer (some ⟨g, 0, none⟩)) (hy : a.eval y = .agg (S.map u8v).toArray) (hB : Bd w g S0)
    (h : ∀ w', Bd w' g S → w.grownBy w' (some g) → wpList Tryd.prog ops Q rest (a.put op.dst undef) w') : wpList Tryd.prog ops Q (op :: rest) a w :=
  wpList_store_row hgd 31 x y ho _ _ _ hx hy (store_b32 h0 hS hB) (h _ (setRow_blk hB).1 (setRow_blk hB).2)
theorem wpList_load_b32 {ops : Array Oper} {rest : List Oper} {op : Oper} {a : Act} {w : World} {Q : Exit → Act → World → Prop} (hgd : op.guard = none) (x : Operand) (ho : op.op = .load 31 x)
    (g : Nat) (S : List Int) (hS : S.length = 32) (hx : a.eval x = .pointer (some ⟨g, 0, none⟩)) (hB : Bd w g S)
    (h : wpList Tryd.prog ops Q rest (a.put op.dst (.agg (S.map u8v).toArray)) w) : wpList Tryd.prog ops Q (op :: rest) a w :=
  wpList_load_row hgd 31 x ho _ _ hx (load_b32 hS hB) h
/-- A guarded load of a digest. -/
theorem wpList_load_b32_g {ops : Array Oper} {rest : List Oper} {op : Oper} {a : Act} {w : World} {Q : Exit → Act → World → Prop} (x : Operand) (ho : op.op = .load 31 x)
    (g : Nat) (S : List Int) (hS : S.length = 32) (hx : a.eval x = .pointer (some ⟨g, 0, none⟩)) (hB : Bd w g S) (hw : Region.wanted op (yielded ops a.tmps) = true)
    (h : wpList Tryd.prog ops Q rest (a.put op.dst (.agg (S.map u8v).toArray)) w) : wpList Tryd.prog ops Q (op :: rest) a w := by
  refine wpList_step fun K hK => ?_
  rw [if_pos hw]
  exact wp_load_row 31 x ho _ _ hx (load_b32 hS hB) (hK _ _ h)
/-- The two variables into which a digest and its image are put. -/
def z32 : List Int := List.replicate 32 0
def dW (w : World) : World := (w.alloc (.cells (z32.map u8v).toArray 31)).alloc (.cells IV.zero.cells 34)
theorem dW_b (w : World) : Bd (dW w) w.heap.size z32 := (Blk.new w _ _).alloc _
theorem dW_i (w : World) : Bi (dW w) (w.heap.size + 1) IV.zero := by
  have h := Blk.new (w.alloc (.cells (z32.map u8v).toArray 31)) 34 IV.zero.cells
  rw [World.size_alloc] at h
  exact h
theorem dW_below (w : World) : Below w.heap.size w (dW w) := ((Below.refl _ _).alloc (Nat.le_refl _) _).alloc (by simp) _
/-- What is kept behind the statement d, im, e := measure.Digest(..). -/
structure DigAt (xs : List UInt8) (w : World) (g i : Nat) (S : List Int) (C : IV) (W : World) : Prop where
  below : Below w.heap.size w W
  sum : Bd W g S
  img : Bi W i C
  lg : w.heap.size ≤ g
  li : w.heap.size ≤ i
  gl : g < W.heap.size
  il : i < W.heap.size
theorem DigAt.later {xs : List UInt8} {w : World} {g i : Nat} {S : List Int} {C : IV} {W X : World} (h : DigAt xs w g i S C W) (hb : Below W.heap.size W X) : DigAt xs w g i S C X :=
  ⟨h.below.trans (hb.mono h.below.size), h.sum.below hb h.gl, h.img.below hb h.il, h.lg, h.li, Nat.lt_of_lt_of_le h.gl hb.size, Nat.lt_of_lt_of_le h.il hb.size⟩
theorem digAt {xs : List UInt8} {w w1 w2 w3 : World} {S : List Int} {C : IV} (h1 : Below w.heap.size w w1) (g1 : (dW w1).grownBy w2 (some w1.heap.size)) (b1 : Bd w2 w1.heap.size S) (g2 : w2.grownBy w3 (some (w1.heap.size + 1))) (b2 : Bi w3 (w1.heap.size + 1) C) :
    DigAt xs w w1.heap.size (w1.heap.size + 1) S C w3 := by
  have hb : Below w1.heap.size w1 w3 := ((dW_below w1).grown g1 (dW_below w1).size (fun j e => by injection e with e; omega)).grown g2 (Nat.le_trans (dW_below w1).size g1.size) (fun j e => by injection e with e; omega)
  have b1' : Bd w3 w1.heap.size S := b1.grown g2 (fun e => by injection e with e; omega)
  exact ⟨h1.trans (hb.mono h1.size), b1', b2, h1.size, by have := h1.size; omega, b1'.lt, b2.lt⟩
theorem digBelow {w1 w2 w3 : World} (g1 : (dW w1).grownBy w2 (some w1.heap.size)) (g2 : w2.grownBy w3 (some (w1.heap.size + 1))) : Below w1.heap.size w1 w3 :=
  ((dW_below w1).grown g1 (dW_below w1).size (fun j e => by injection e with e; omega)).grown g2 (Nat.le_trans (dW_below w1).size g1.size) (fun j e => by injection e with e; omega)
theorem digest_any (A : Option Addr) (n c : Nat) (xs : List UInt8) (w : World) (hr : Rd w w.heap.size A n c xs) (hn : n ≤ 16777216) :
    Calls Tryd.prog 10 #[.slice A n c] w fun e w' => Below w.heap.size w w' ∧ ∃ (S : List Int) (C : IV) (er : Nat), e = .returned (.tuple #[.agg (S.map u8v).toArray, C.val, .int .i64 (er : Int)]) ∧ dig xs = S ∧ Pe.err xs = er ∧ S.length = 32 ∧ C.One ∧ (er ≠ 0 → C = IV.zero) ∧ (er = 0 → ImgOwn xs C w.heap.size w') :=
  (meDigest_any A n c xs w hr hn).mono fun e w' ⟨hb, C, he, h1, h2, h3⟩ => ⟨hb, _, C, _, he, rfl, rfl, dig_len xs, h1, h2, h3⟩
end Go.Proofs.YtedlpcioegbmfaaDoor
