/- A range over the elements of bytes: der.each: the law for whoever ranges over it. -/
import Derived.Test.YtnfngnmajjkdbaaDoorProg
import Derived.Test.YtnfngnmajjkdbaaDoorMem
import Derived.Test.YtnfngnmajjkdbaaDoorMem2
import Derived.Test.YtnfngnmajjkdbaaDoorDerSpec
import Derived.Test.YtnfngnmajjkdbaaDoorNum
import Derived.Test.YtnfngnmajjkdbaaDoorBase
import Derived.Test.YtnfngnmajjkdbaaDoorDer2
import Derived.RangeFuncNested
import Derived.RangeFuncBound
import Derived.RangeFuncCalls
import Derived.RangeFuncLeaves
import Derived.Shelf.Abstract
import Derived.Shelf.RegionOpen
import Derived.WalkKit
import Derived.OwnWalkIn
import Derived.TacticsInMore
import Derived.LoopNIn
import Derived.LoopIn
namespace Go.Proofs.YtnfngnmajjkdbaaDoor
open Go.RowKit Go.Shelf
attribute [local go_sem] Oper.semAt_some
set_option maxRecDepth 100000

/-- The elements of which bytes consist, as far as they are right; a last 'none', if what is left is no element. -/
def Der.seqF : Nat → List UInt8 → List (Option (UInt8 × List UInt8 × List UInt8))
  | 0, _ => []
  | k + 1, xs => if xs = [] then [] else match Der.elem xs with
    | none => [none]
    | some (t, body, raw, rest) => some (t, body, raw) :: Der.seqF k rest
def Der.seq (xs : List UInt8) : List (Option (UInt8 × List UInt8 × List UInt8)) := Der.seqF xs.length xs

theorem elem_rest {xs : List UInt8} {t : UInt8} {body raw rest : List UInt8} (h : Der.elem xs = some (t, body, raw, rest)) : rest.length < xs.length := by
  unfold Der.elem at h
  split at h
  · rename_i f n hd
    split at h
    · simp only [Option.some.injEq, Prod.mk.injEq] at h
      obtain ⟨_, rfl, rfl, rfl⟩ := h
      have := Der.lenOf_bd (hdr_len hd)
      simp; omega
    · cases h
  · cases h
theorem seqF_more : ∀ (k : Nat) (xs : List UInt8), xs.length ≤ k → Der.seqF (k + 1) xs = Der.seqF k xs
  | 0, xs, h => by
    have : xs = [] := List.eq_nil_of_length_eq_zero (by omega)
    subst this; rfl
  | k + 1, xs, h => by
    rw [Der.seqF, Der.seqF]
    by_cases e : xs = []
    · rw [if_pos e, if_pos e]
    · rw [if_neg e, if_neg e]
      cases he : Der.elem xs with
      | none => rfl
      | some x =>
        obtain ⟨t, body, raw, rest⟩ := x
        have hr := elem_rest he
        simp only
        rw [seqF_more k rest (by omega)]
theorem seqF_enough {k : Nat} {xs : List UInt8} (h : xs.length ≤ k) : Der.seqF k xs = Der.seq xs := by
  have key : ∀ j, Der.seqF (xs.length + j) xs = Der.seq xs := by
    intro j
    induction j with
    | zero => rfl
    | succ j ih => rw [← Nat.add_assoc, seqF_more _ _ (by omega), ih]
  have := key (k - xs.length)
  rwa [show xs.length + (k - xs.length) = k from by omega] at this
theorem seq_nil : Der.seq [] = [] := rfl
theorem seq_none {xs : List UInt8} (hx : xs ≠ []) (h : Der.elem xs = none) : Der.seq xs = [none] := by
  have hl : 0 < xs.length := List.length_pos_iff.2 hx
  unfold Der.seq
  rw [show xs.length = xs.length - 1 + 1 from by omega, Der.seqF, if_neg hx, h]
theorem seq_some {xs : List UInt8} {t : UInt8} {body raw rest : List UInt8} (hx : xs ≠ []) (h : Der.elem xs = some (t, body, raw, rest)) : Der.seq xs = some (t, body, raw) :: Der.seq rest := by
  have hl : 0 < xs.length := List.length_pos_iff.2 hx
  have hr := elem_rest h
  unfold Der.seq
  rw [show xs.length = xs.length - 1 + 1 from by omega, Der.seqF, if_neg hx, h]
  simp only
  rw [seqF_enough (by omega)]
  rfl

/-- What is handed on: the element as data, and as a value. -/
structure Item where
  dat : Option (UInt8 × List UInt8 × List UInt8)
  v : Value
  ok : Bool
/-- The value is the datum's, in memory below n₀ of w₀. -/
def Item.good (n₀ : Nat) (w₀ : World) (x : Item) : Prop :=
  (x.dat = none ∧ x.v = .agg #[.int .u8 0, .slice none 0 0, .slice none 0 0] ∧ x.ok = false) ∨
  ∃ t body raw A1 n1 c1 A2 n2 c2, x.dat = some (t, body, raw) ∧ x.v = .agg #[.int .u8 (t.toNat : Int), .slice A1 n1 c1, .slice A2 n2 c2] ∧ x.ok = true ∧ Rd w₀ n₀ A1 n1 c1 body ∧ Rd w₀ n₀ A2 n2 c2 raw

/-- What the iterator itself does to memory: new blocks, and stores into the cell of its own. -/
def AbCell {β : Type} (Bn : Nat) (J : β → World → Prop) : Prop := ∀ s X Y, J s X → X.grownBy Y (some Bn) → J s Y

theorem grownBy_below {w w' : World} (h : Below w.heap.size w w') (r : Option Nat) : w.grownBy w' r := ⟨h.os, h.tape, h.output, h.size, fun k hk _ => h.block k hk⟩
theorem _root_.Go.World.grownBy.alloc {w w' : World} {r : Option Nat} (h : w.grownBy w' r) (o : Obj) : w.grownBy (w'.alloc o) r :=
  ⟨h.os, h.tape, h.output, Nat.le_trans h.size (by simp), fun i hi hne => (Below.heap_alloc w' o i (Nat.lt_of_lt_of_le hi h.size)).trans (h.block i hi hne)⟩

set_option maxHeartbeats 2000000 in
/-- der.each's closure: every element is handed on, in order, till the round says no more. -/
theorem each1_in (n : Nat) (hn : 1 ≤ n) (l Bn n₀ : Nat) (w₀ : World) (A : Option Addr) (m c : Nat) (xs : List UInt8) (hr : Rd w₀ n₀ A m c xs) (J Jx : List Item → World → Prop)
    (hJ : AbCell Bn J) (hJx : AbCell Bn Jx) (hJb : ∀ s X, J s X → Below n₀ w₀ X ∧ n₀ ≤ X.heap.size)
    (hY : ∀ pre x W1, J pre W1 → x.good n₀ w₀ → (∃ tl, Der.seq xs = (pre ++ [x]).map (·.dat) ++ tl) → YieldAt Fence.wide (n - 1) Tryd.prog l #[x.v, .bool x.ok] W1 fun e W' =>
      (e = .returned (.bool true) ∧ J (pre ++ [x]) W' ∧ W'.heap[Bn]? = W1.heap[Bn]?) ∨ (e = .returned (.bool false) ∧ Jx (pre ++ [x]) W'))
    (W : World) (hW : Blk W Bn 22 #[.slice A m c]) (h0 : J [] W) :
    CallsIn Fence.wide n Tryd.prog 37 #[.func (.yield l) #[] #[], .pointer (some ⟨Bn, 0, none⟩)] W fun e W' => (∃ v, e = .returned v) ∧
      ((∃ ys, ys.map (·.dat) = Der.seq xs ∧ J ys W') ∨ (∃ pre, Jx pre W')) := by
  refine callsIn_of_wp Tryd.func37 rfl trivial ?_ rfl
  simp only [Tryd.ntmps37, List.size_toArray, List.length_cons, List.length_nil, Nat.reduceAdd, Nat.reduceSub, Array.replicate_succ, Array.replicate_zero, List.push_toArray, List.append_toArray, List.nil_append, List.cons_append]
  gi_wp2
  gi_loopw [3] (fun _ wr => ∃ (pre : List Item) (ys : List UInt8) (A' : Option Addr) (m' c' : Nat), Der.seq xs = pre.map (·.dat) ++ Der.seq ys ∧ Rd w₀ n₀ A' m' c' ys ∧ Blk wr Bn 22 #[.slice A' m' c'] ∧ J pre wr)
    (fun _ wr => match wr.cell? ⟨Bn, 0, none⟩ with | some (.slice _ m' _) => m' | _ => 0)
  case atStart => exact ⟨[], xs, A, m, c, rfl, hr, hW, h0⟩
  case round =>
    obtain ⟨pre, ys, A', m', c', hs, hy, hB, hj⟩ := hrel
    obtain ⟨hc0, hf0⟩ := hB.facts
    by_cases hlt : 0 < m'
    · have hlt' : (0 : Int) < m' := by omega
      have hne : ys ≠ [] := by rintro rfl; have := hy.len; simp at this; omega
      obtain ⟨hbl, hsz⟩ := hJb _ _ hj
      have hyr := hy.below hbl
      have HH := Lib.hid (And.intro hs (And.intro hy (And.intro hj (And.intro hbl hyr))))
      have HYJ := Lib.hid (And.intro hY (And.intro hJ hJx))
      clear hs hy hj hbl hyr hY hJ hJx h0
      gi_wp2_with fail
      refine ⟨trivial, (callsIn_wide.2 (element_any A' m' c' ys n₀ wr HH.out.2.2.2.2 hsz)).mono ?_⟩
      rintro e w2 ⟨hb2, ⟨hno, rfl⟩ | ⟨t, body, raw, rest, A1, n1, c1, A2, n2, c2, A3, n3, c3, hel, rfl, h1, h2, h3⟩⟩
      · have HNO := Lib.hid hno
        clear hno hc0 hf0
        have hj1 := HYJ.out.2.1 _ _ _ HH.out.2.2.1 ((grownBy_below hb2 (some Bn)).alloc (.cells #[.int .u8 0, .slice none 0 0, .slice none 0 0] 30))
        obtain ⟨fn, tmps, assign, body, hyld, hR⟩ := HYJ.out.1 pre ⟨none, .agg #[.int .u8 0, .slice none 0 0, .slice none 0 0], false⟩ _ hj1 (.inl ⟨rfl, rfl, rfl⟩) ⟨[], by rw [HH.out.1, seq_none hne HNO.out]; simp⟩
        dsimp only at hyld
        have HJ1 := Lib.hid hj1
        clear hj1
        gi_wp2
        refine hR.mono ?_
        rintro e W3 (⟨rfl, hj3, hB3⟩ | ⟨rfl, hx3⟩)
        · have HR := Lib.hid hj3
          clear hj3 hB3
          gi_wp2
          refine bodyPost_ret (results_none rfl _ _ _) rfl ?_
          exact ⟨⟨_, rfl⟩, .inl ⟨_, by rw [HH.out.1, seq_none hne HNO.out]; simp, HR.out⟩⟩
        · have HR := Lib.hid hx3
          clear hx3
          gi_wp2
          refine bodyPost_ret (results_none rfl _ _ _) rfl ?_
          exact ⟨⟨_, rfl⟩, .inr ⟨_, HR.out⟩⟩
      · have hlt3 : n3 < m' := by
          have := elem_rest hel
          rw [h3.len, HH.out.2.1.len] at this
          exact this
        have hback : ∀ {A : Option Addr} {n c : Nat} {zs : List UInt8}, Rd wr n₀ A n c zs → Rd w₀ n₀ A n c zs := fun h => h.keep fun p hp => (HH.out.2.2.2.1.cell hp).symm
        have HX := Lib.hid (And.intro hel (And.intro (hback h1) (And.intro (hback h2) (hback h3))))
        clear hc0 hf0 hel h1 h2 h3 hback
        have hj1 := HYJ.out.2.1 _ _ _ HH.out.2.2.1 ((grownBy_below hb2 (some Bn)).alloc (.cells #[.int .u8 (t.toNat : Int), .slice A1 n1 c1, .slice A2 n2 c2] 30))
        obtain ⟨fn, tmps, assign, body', hyld, hR⟩ := HYJ.out.1 pre ⟨some (t, body, raw), .agg #[.int .u8 (t.toNat : Int), .slice A1 n1 c1, .slice A2 n2 c2], true⟩ _ hj1
          (.inr ⟨t, body, raw, A1, n1, c1, A2, n2, c2, rfl, rfl, rfl, HX.out.2.1, HX.out.2.2.1⟩) ⟨Der.seq rest, by rw [HH.out.1, seq_some hne HX.out.1]; simp⟩
        dsimp only at hyld
        have HJ1 := Lib.hid hj1
        clear hj1
        have hB1 := (hB.below hb2 hB.lt).alloc (.cells #[.int .u8 (t.toNat : Int), .slice A1 n1 c1, .slice A2 n2 c2] 30)
        gi_wp2
        refine hR.mono ?_
        rintro e W3 (⟨rfl, hj3, hB3⟩ | ⟨rfl, hx3⟩)
        · have hB4 : Blk W3 Bn 22 #[.slice A' m' c'] := hB3.trans hB1
          obtain ⟨hc4, hf4⟩ := hB4.facts
          have HR := Lib.hid (And.intro hj3 hB4)
          clear hj3 hB3 hB4 hB1
          gi_wp2
          go_roundw
          case rel =>
            exact ⟨pre ++ [⟨some (t, body, raw), .agg #[.int .u8 (t.toNat : Int), .slice A1 n1 c1, .slice A2 n2 c2], true⟩], rest, A3, n3, c3, by rw [HH.out.1, seq_some hne HX.out.1]; simp, HX.out.2.2.2,
              by simpa using HR.out.2.set_ 0 (.slice A3 n3 c3), HYJ.out.2.1 _ _ _ HR.out.1 (grownBy_setCell' _ _ _)⟩
          case measure =>
            have e1 : (W3.setCell ⟨Bn, 0, none⟩ (.slice A3 n3 c3)).cell? ⟨Bn, 0, none⟩ = some (.slice A3 n3 c3) := by
              have := (HR.out.2.set_ 0 (.slice A3 n3 c3)).cell 0
              simpa using this
            have e2 := hB.cell 0
            simp only [e1, e2]
            simpa using hlt3
        · have HR := Lib.hid hx3
          clear hx3 hB1
          gi_wp2
          refine bodyPost_ret (results_none rfl _ _ _) rfl ?_
          exact ⟨⟨_, rfl⟩, .inr ⟨_, HR.out⟩⟩
    · obtain rfl : m' = 0 := by omega
      have hy0 : ys = [] := List.eq_nil_of_length_eq_zero hy.len
      have HH := Lib.hid (And.intro hs (And.intro hy0 hj))
      clear hs hy0 hj hy hY hJ hJx h0
      gi_wp2
      go_end0
      exact ⟨⟨_, rfl⟩, .inl ⟨pre, by rw [HH.out.1, HH.out.2.1, seq_nil]; simp, HH.out.2.2⟩⟩
end Go.Proofs.YtnfngnmajjkdbaaDoor
