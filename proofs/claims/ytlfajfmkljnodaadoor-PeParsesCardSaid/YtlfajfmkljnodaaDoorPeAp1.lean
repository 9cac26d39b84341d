/- Laws for lintelref00.Apart: one byte is appended in place or into new memory; what a chain of such appends leaves of the slice that it began with. -/
import Derived.Test.YtlfajfmkljnodaaDoorPA
import Derived.Test.YtlfajfmkljnodaaDoorProg
import Derived.ArgAppend
namespace Go.Proofs.YtlfajfmkljnodaaDoor
open Go.RowKit
set_option maxRecDepth 100000
set_option linter.unusedVariables false
set_option linter.unusedSimpArgs false

def Apart' (l : List (Value × List UInt8)) : Prop := l.Pairwise fun a b => ∀ g, a.1.ownBlock = some g → b.1.ownBlock ≠ some g
theorem _root_.Go.World.grownBy.alloc {w w' : World} {r : Option Nat} (h : w.grownBy w' r) (o : Obj) : w.grownBy (w'.alloc o) r :=
  ⟨h.os, h.tape, h.output, Nat.le_trans h.size (by simp), fun i hi hne => (Below.heap_alloc w' o i (Nat.lt_of_lt_of_le hi h.size)).trans (h.block i hi hne)⟩
/-- In place, or into new memory. -/
def App1 (w w' : World) (v v' : Value) : Prop :=
  (∃ g n c, v = .slice (some ⟨g, 0, none⟩) n c ∧ v' = .slice (some ⟨g, 0, none⟩) (n + 1) c ∧ w.grownBy w' (some g)) ∨ (w.grownBy w' none ∧ ∃ g, v'.ownBlock = some g ∧ w.heap.size ≤ g)

theorem run_app1 (w : World) (ty : TypeId) (lo hi : Nat) (v : Value) (xs : List UInt8) (hown : OwnB w lo hi v xs) (hlo : lo ≤ w.heap.size)
    (ad : Addr) (c : Nat) (y : UInt8) (hr : w.cell? ad = some (bv y)) (hlen : xs.length + 1 ≤ 35184372088832) :
    ∃ v' w', (Builtin.append_ #[22, 22] ty #[v, .slice (some ad) 1 c]).run Tryd.prog w = .ok v' w' ∧ OwnB w' lo w'.heap.size v' (xs ++ [y]) ∧ App1 w w' v v' ∧ Below lo w w' := by
  obtain ⟨i0, hi0, hz0, hz1, hz2⟩ := info_parts u8_info
  have hc : ∀ j u, [bv y][j]? = some u → w.cell? (ad.add j) = some u := by
    intro j u hu
    have hj : j = 0 := by
      have := (List.getElem?_eq_some_iff.1 hu).1
      simp at this; omega
    subst hj
    simp only [List.getElem?_cons_zero, Option.some.injEq] at hu
    subst hu
    simpa [Addr.add] using hr
  have h1 : ∀ u ∈ [bv y], u.oneCell' = true := bv_one [y]
  rcases hown.1.2 with ⟨rfl, hn⟩ | ⟨g, cap, cur, rfl, hb, hg, hnc, hcm, hcs, htake⟩
  · have hx : xs = [] := List.eq_nil_of_length_eq_zero hn
    subst hx
    obtain ⟨v', w', hrun, r1, r2, r3⟩ := run_append_own (P := Tryd.prog) w w.heap.size 22 ty 5 i0 _ 1 1 Tryd.underlying22 hi0 hz0 hz1 hz2 rfl (by omega) (.slice none 0 0) 0 [] (World.ownsRow_nil w _ _ _) ad 1 c [bv y] rfl hc h1 (by simp [maxLen]) (by omega) (Nat.le_refl _)
    have r1' : w'.ownsRow w.heap.size 5 1 v' 1 ([y].map bv) := r1
    obtain ⟨g, cap, rfl, hb, hlt⟩ := r1'.form (by omega)
    refine ⟨_, w', hrun, (OwnB.of r1').mono hlo (Nat.le_refl _), .inr ⟨r2, g, rfl, hb⟩, (Below.refl _ _).grown r2 hlo (by simp [Value.ownBlock])⟩
  · by_cases hroom : xs.length + 1 ≤ cap
    · obtain ⟨w', hrun, r1, r2⟩ := run_append_fits (P := Tryd.prog) w lo 22 ty 5 i0 1 Tryd.underlying22 hi0 hz1 g xs.length cap (xs.map bv) hown.1 ad 1 c [bv y] rfl hc h1 hroom
      have r1' : w'.ownsRow lo 5 1 (.slice (some ⟨g, 0, none⟩) (xs.length + 1) cap) (xs.length + 1) ((xs ++ [y]).map bv) := by rw [List.map_append]; exact r1
      exact ⟨_, w', hrun, OwnB.of r1', .inl ⟨g, _, cap, rfl, rfl, r2⟩, (Below.refl _ _).grown r2 hlo (by intro k hk; injection hk with hk; omega)⟩
    · obtain ⟨v', w', hrun, r1, r2⟩ := run_append_arg_grows (P := Tryd.prog) w 22 ty 5 i0 _ 1 1 Tryd.underlying22 hi0 hz0 hz1 hz2 rfl (by omega) ⟨g, 0, none⟩ xs.length cap (xs.map bv) (by simp) (hown.1.cells rfl) ad 1 c [bv y] rfl hc (by omega) (by simp only [maxLen]; omega) (by omega)
      have r1' : w'.ownsRow w.heap.size 5 1 v' (xs.length + 1) ((xs ++ [y]).map bv) := by rw [List.map_append]; exact r1
      obtain ⟨g', cap', rfl, hb', hlt⟩ := r1'.form (by omega)
      exact ⟨_, w', hrun, (OwnB.of r1').mono hlo (Nat.le_refl _), .inr ⟨r2, g', rfl, hb'⟩, (Below.refl _ _).grown r2 hlo (by intro k hk; cases hk)⟩

theorem wpList_app1 {w : World} {ops : Array Oper} {rest : List Oper} {o : Oper} {a : Act} {Q : Exit → Act → World → Prop} (hgd : o.guard = none) (s x : Operand)
    (ho : o.op = .call { callee := .builtin .append, args := #[s, x], argTypes := #[22, 22] })
    (lo hi : Nat) (v : Value) (xs : List UInt8) (hs : a.eval s = v) (hown : OwnB w lo hi v xs) (hlo : lo ≤ w.heap.size)
    (ad : Addr) (c : Nat) (y : UInt8) (hx : a.eval x = .slice (some ad) 1 c) (hr : w.cell? ad = some (bv y)) (hlen : xs.length + 1 ≤ 35184372088832)
    (h : ∀ v' w', OwnB w' lo w'.heap.size v' (xs ++ [y]) → App1 w w' v v' → Below lo w w' → wpList Tryd.prog ops Q rest (a.put o.dst v') w') :
    wpList Tryd.prog ops Q (o :: rest) a w := by
  obtain ⟨v', w', hrun, h1, h2, h3⟩ := run_app1 w o.type lo hi v xs hown hlo ad c y hr hlen
  exact wpList_append_run hgd s x _ _ ho _ _ _ hs hx hrun (h v' w' h1 h2 h3)

/-- A row's beginning is a row. -/
theorem OwnB.front {w : World} {lo hi g n m c : Nat} {xs ys : List UInt8} (h : OwnB w lo hi (.slice (some ⟨g, 0, none⟩) m c) (xs ++ ys)) (hn : xs.length = n) : OwnB w lo hi (.slice (some ⟨g, 0, none⟩) n c) xs := by
  subst hn
  refine ⟨⟨by simp, ?_⟩, h.2⟩
  rcases h.1.2 with ⟨e, _⟩ | ⟨g', cap', cur, e, hb, hg, hnc, hcm, hcs, ht⟩
  · cases e
  · simp only [Value.slice.injEq, Option.some.injEq, Addr.mk.injEq] at e
    obtain ⟨⟨rfl, _, _⟩, _, rfl⟩ := e
    refine .inr ⟨g, c, cur, rfl, hb, hg, by rw [List.length_append] at hnc; omega, hcm, hcs, ?_⟩
    have := congrArg (List.take xs.length) ht
    simpa [List.take_take] using this

theorem OwnB.grown {w w' : World} {lo hi : Nat} {v : Value} {xs : List UInt8} {row : Option Nat} (h : OwnB w lo hi v xs) (hg : w.grownBy w' row) (hne : ∀ q, v.ownBlock = some q → row ≠ some q) : OwnB w' lo hi v xs := by
  refine ⟨h.1.kept hg ?_, h.2⟩
  cases hv : v.ownBlock with
  | none => exact .inl rfl
  | some q => exact .inr (fun e => hne q hv e.symm)
theorem OwnB.lt_ {w : World} {lo hi q : Nat} {v : Value} {xs : List UInt8} (h : OwnB w lo hi v xs) (hq : v.ownBlock = some q) : lo ≤ q ∧ q < hi := ⟨(h.1.lt q hq).1, h.2 q hq⟩

/-- What a chain of appends of one byte leaves: the slice that it began with reads as it did; the one gone on with has k bytes more; nothing else that was there has changed. -/
def GRel (ws : World) (lo hi : Nat) (v : Value) (xs : List UInt8) (b : UInt8) (k : Nat) (g : Value) (wr : World) : Prop :=
  OwnB wr lo hi v xs ∧ OwnB wr lo wr.heap.size g (xs ++ List.replicate k b) ∧ ws.grownBy wr v.ownBlock ∧ Below lo ws wr ∧
  ((∃ q n m c, v = .slice (some ⟨q, 0, none⟩) n c ∧ g = .slice (some ⟨q, 0, none⟩) m c) ∨ (v = g ∧ v.ownBlock = none) ∨ ∃ q, g.ownBlock = some q ∧ ws.heap.size ≤ q)

theorem GRel.start {ws : World} {lo hi : Nat} {v : Value} {xs : List UInt8} (b : UInt8) (h : OwnB ws lo hi v xs) (hi' : hi ≤ ws.heap.size) : GRel ws lo hi v xs b 0 v ws := by
  refine ⟨h, by simpa using h.mono (Nat.le_refl _) hi', World.grownBy.refl _ _, Below.refl _ _, ?_⟩
  rcases h.1.2 with ⟨rfl, _⟩ | ⟨g, cap, cur, rfl, _⟩
  · exact .inr (.inl ⟨rfl, rfl⟩)
  · exact .inl ⟨g, _, _, cap, rfl, rfl⟩

theorem GRel.step {ws : World} {lo hi : Nat} {v : Value} {xs : List UInt8} {b : UInt8} {k : Nat} {g g' : Value} {wr w2 : World} {o : Obj} (h : GRel ws lo hi v xs b k g wr) (hi' : hi ≤ ws.heap.size) (hlo : lo ≤ ws.heap.size)
    (ho : OwnB w2 lo w2.heap.size g' ((xs ++ List.replicate k b) ++ [b])) (ha : App1 (wr.alloc o) w2 g g') (hb : Below lo (wr.alloc o) w2) : GRel ws lo hi v xs b (k + 1) g' w2 := by
  obtain ⟨h1, h2, h3, h4, h5⟩ := h
  have hsz := h3.size
  have hl2 : lo ≤ wr.heap.size := by omega
  have e1 : (xs ++ List.replicate k b) ++ [b] = xs ++ List.replicate (k + 1) b := by rw [List.replicate_succ', List.append_assoc]
  rw [e1] at ho
  have hB : Below lo ws w2 := h4.trans ((Below.alloc (Below.refl _ _) hl2 o).trans hb)
  have h1a : OwnB (wr.alloc o) lo hi v xs := h1.alloc (by omega) o
  have h3a : ws.grownBy (wr.alloc o) v.ownBlock := h3.alloc o
  rcases ha with ⟨q, n, c, rfl, rfl, hg⟩ | ⟨hg, q, hq, hlt⟩
  · rcases h5 with ⟨q', n', m', c', rfl, e⟩ | ⟨rfl, e⟩ | ⟨q', hq', hle⟩
    · simp only [Value.slice.injEq, Option.some.injEq, Addr.mk.injEq] at e
      obtain ⟨⟨rfl, _, _⟩, _, rfl⟩ := e
      refine ⟨?_, ho, ?_, hB, .inl ⟨_, _, _, _, rfl, rfl⟩⟩
      · obtain ⟨A, n0, c0, e0, hr⟩ := h1.rd
        injection e0 with ea en ec
        subst en
        have hlt := (h1.lt_ (q := q) rfl)
        exact ((ho.mono (Nat.le_refl _) (Nat.le_refl _)).front hr.len) |> fun h => ⟨h.1, fun k hk => by
          simp only [Value.ownBlock, Option.some.injEq] at hk
          omega⟩
      · exact ⟨hg.os.trans h3a.os, hg.tape.trans h3a.tape, hg.output.trans h3a.output, Nat.le_trans h3a.size hg.size, fun i hi hne => (hg.block i (Nat.lt_of_lt_of_le hi h3a.size) hne).trans (h3a.block i hi hne)⟩
    · cases e
    · simp only [Value.ownBlock, Option.some.injEq] at hq'
      subst hq'
      refine ⟨h1a.grown hg ?_, ho, ?_, hB, .inr (.inr ⟨_, rfl, hle⟩)⟩
      · intro r hr e
        injection e with e
        have := h1.lt_ hr
        omega
      · exact ⟨hg.os.trans h3a.os, hg.tape.trans h3a.tape, hg.output.trans h3a.output, Nat.le_trans h3a.size hg.size, fun i hi hne => (hg.block i (Nat.lt_of_lt_of_le hi h3a.size) (by intro e; injection e with e; omega)).trans (h3a.block i hi hne)⟩
  · refine ⟨h1a.grown hg (fun r hr e => by cases e), ho, ?_, hB, .inr (.inr ⟨q, hq, ?_⟩)⟩
    · exact ⟨hg.os.trans h3a.os, hg.tape.trans h3a.tape, hg.output.trans h3a.output, Nat.le_trans h3a.size hg.size, fun i hi hne => (hg.block i (Nat.lt_of_lt_of_le hi h3a.size) (by intro e; cases e)).trans (h3a.block i hi hne)⟩
    · simp at hlt; omega
end Go.Proofs.YtlfajfmkljnodaaDoor
