/- Joined of: RsW RsP Rs2 Rs3 Rs4 Rs5 Rs1. -/
import Derived.Test.YtmpladnglfiejaaGreatDoorPA
import Derived.Test.YtmpladnglfiejaaGreatDoorSh4
import Derived.ArgAppend
import Derived.Laws.OwnMore
import Derived.Test.YtmpladnglfiejaaGreatDoorSh11
import Derived.BigRegion
import Derived.BigQuiet
import Derived.Deep.QuietTactic
import Derived.Test.YtmpladnglfiejaaGreatDoorSh3
import Derived.Test.YtmpladnglfiejaaGreatDoorPD
import Derived.Test.YtmpladnglfiejaaGreatDoorSh2
section
/- Rows of 32-bit words in memory: read, owned, appended to. -/
namespace Go.Proofs.YtmpladnglfiejaaGreatDoor
open Go.RowKit
set_option maxRecDepth 100000
set_option linter.unusedVariables false
set_option linter.unusedSimpArgs false
/-- A slice of words, as it reads. -/
structure RdW (w : World) (B : Nat) (A : Option Addr) (n c : Nat) (l : List Int) : Prop where
  len : l.length = n
  cap : n ≤ c
  capm : c ≤ 9223372036854775807
  spot : 0 < n → ∃ b o, A = some ⟨b, o, none⟩ ∧ b < B
  rds : Reads w B 1 A n (l.map u32v)
section
variable {w w' : World} {B B' n c : Nat} {A : Option Addr} {l : List Int}
theorem RdW.keep (h : RdW w B A n c l) (hk : ∀ p : Addr, p.block < B → w'.cell? p = w.cell? p) : RdW w' B A n c l := ⟨h.len, h.cap, h.capm, h.spot, h.rds.keep hk⟩
theorem RdW.below (h : RdW w B A n c l) (hb : Below B w w') : RdW w' B A n c l := h.keep fun _ hp => hb.cell hp
theorem RdW.more (h : RdW w B A n c l) (hB : B ≤ B') : RdW w B' A n c l :=
  ⟨h.len, h.cap, h.capm, fun hc => by obtain ⟨b, o, e, hb⟩ := h.spot hc; exact ⟨b, o, e, by omega⟩, h.rds.more hB⟩
theorem RdW.up (h : RdW w w.heap.size A n c l) (hb : Below w.heap.size w w') : RdW w' w'.heap.size A n c l := (h.below hb).more hb.size
theorem RdW.none_ : RdW w B none 0 0 [] := ⟨rfl, Nat.le_refl _, by omega, fun h => absurd h (by omega), Reads.none_⟩
theorem RdW.get (h : RdW w B A n c l) {k : Nat} (hk : k < n) : ∃ b o x, A = some ⟨b, o, none⟩ ∧ b < B ∧ l[k]? = some x ∧ w.cell? ⟨b, o + k, none⟩ = some (.int .u32 x) := by
  obtain ⟨b, o, rfl, hb⟩ := h.spot (by omega)
  obtain ⟨ad, e, _, hc⟩ := h.rds.2 (by omega)
  injection e with e
  subst e
  have hx : l[k]? = some (l[k]'(by have := h.len; omega)) := List.getElem?_eq_getElem _
  have c1 := hc k (u32v (l[k]'(by have := h.len; omega))) (by rw [List.getElem?_map, hx]; rfl)
  rw [Addr.add_lit] at c1
  exact ⟨b, o, _, rfl, hb, hx, c1⟩
/-- All of it, at its place. -/
theorem RdW.at_ (h : RdW w B A n c l) (hn : 0 < n) : ∃ b o, A = some ⟨b, o, none⟩ ∧ b < B ∧ ∀ j x, l[j]? = some x → w.cell? ⟨b, o + j, none⟩ = some (.int .u32 x) := by
  obtain ⟨b, o, rfl, hb⟩ := h.spot hn
  refine ⟨b, o, rfl, hb, fun j x hx => ?_⟩
  have hj : j < n := by have := (List.getElem?_eq_some_iff.1 hx).1; have := h.len; omega
  obtain ⟨b', o', x', e, _, hx', hc⟩ := h.get hj
  injection e with e
  injection e with e1 e2
  subst e1 e2
  rw [hx] at hx'
  injection hx' with hx'
  rw [hx']
  exact hc
end
theorem w32_info : (Tryz.prog.info? 26).map (fun i => (i.zero, i.size, i.bytes)) = some (some (.int .u32 0), 1, 4) := by kernel_rfl
theorem u32s_one (l : List Int) : ∀ v ∈ l.map u32v, v.oneCell' = true := by
  intro v hv
  obtain ⟨x, _, rfl⟩ := List.mem_map.1 hv
  rfl
/-- A row of words of the call's own. -/
def OwnW (w : World) (lo hi : Nat) (v : Value) (l : List Int) : Prop := OwnC 26 1 w lo hi v l.length (l.map u32v)
section
variable {w w' : World} {lo hi lo' hi' B : Nat} {v : Value} {l : List Int}
theorem OwnW.nil_ : OwnW w lo hi (.slice none 0 0) [] := OwnC.nil_
theorem OwnW.mono (h : OwnW w lo hi v l) (h1 : lo' ≤ lo) (h2 : hi ≤ hi') : OwnW w lo' hi' v l := OwnC.mono h h1 h2
theorem OwnW.keep (h : OwnW w lo hi v l) (hk : ∀ k, lo ≤ k → k < hi → w'.heap[k]? = w.heap[k]?) : OwnW w' lo hi v l := OwnC.keep h hk
theorem OwnW.below (h : OwnW w lo hi v l) (hb : Below B w w') (hB : hi ≤ B) : OwnW w' lo hi v l := OwnC.below h hb hB
theorem OwnW.rd (h : OwnW w lo hi v l) : ∃ A c, v = .slice A l.length c ∧ RdW w hi A l.length c l := by
  obtain ⟨A, c, rfl, h1, h2, h3, h4⟩ := OwnC.shape h
  refine ⟨A, c, rfl, rfl, h1, h2, fun hn => ?_, h4⟩
  obtain ⟨g, cap, e, hg, _⟩ := h.1.form hn
  injection e with e1 e2 e3
  subst e1
  obtain ⟨ad, e, hlt, _⟩ := h4.2 hn
  injection e with e
  subst e
  exact ⟨g, 0, rfl, hlt⟩
theorem OwnW.form (h : OwnW w lo hi v l) (hn : 0 < l.length) : ∃ g cap, v = .slice (some ⟨g, 0, none⟩) l.length cap ∧ lo ≤ g ∧ g < hi := by
  obtain ⟨g, cap, e, hg, _⟩ := h.1.form hn
  exact ⟨g, cap, e, hg, h.2 g (by rw [e]; rfl)⟩
theorem OwnW.cellAt {g n cap : Nat} (h : OwnW w lo hi (.slice (some ⟨g, 0, none⟩) n cap) l) {j : Nat} {x : Int} (hx : l[j]? = some x) : w.cell? ⟨g, j, none⟩ = some (.int .u32 x) := by
  have hj := (List.getElem?_eq_some_iff.1 hx).1
  have hc := h.1.cells (g := g) rfl j (u32v x) (by rw [List.getElem?_map, hx]; rfl)
  rw [Addr.add_lit, Nat.zero_add] at hc
  exact hc
end
theorem OwnW.frozenAt {w : World} {lo hi g n cap : Nat} {l : List Int} (h : OwnW w lo hi (.slice (some ⟨g, 0, none⟩) n cap) l) (hn : l.length = n) (j : Nat) : w.frozen? ⟨g, j, none⟩ = false := by
  subst hn
  exact h.1.frozenAt j
theorem OwnW.stored {w : World} {lo hi g n cap : Nat} {l : List Int} (h : OwnW w lo hi (.slice (some ⟨g, 0, none⟩) n cap) l) (hn : l.length = n) (j : Nat) (x : Int) : OwnW (w.setCell ⟨g, j, none⟩ (.int .u32 x)) lo hi (.slice (some ⟨g, 0, none⟩) n cap) (l.set j x) := by
  subst hn
  have hs := (h.1.stored j (u32v x)).1
  rw [← List.map_set] at hs
  refine ⟨?_, h.2⟩
  rw [List.length_set]
  exact hs
/-- Natural numbers as words. -/
def nl (L : List Nat) : List Int := L.map fun x => ((x : Nat) : Int)
theorem nl_len (L : List Nat) : (nl L).length = L.length := by simp [nl]
theorem nl_set (L : List Nat) (j x : Nat) : (nl L).set j (x : Int) = nl (L.set j x) := by unfold nl; rw [List.map_set]
theorem nl_get {L : List Nat} {k : Nat} (hk : k < L.length) : (nl L)[k]? = some ((L.getD k 0 : Nat) : Int) := by
  unfold nl
  rw [List.getElem?_map, List.getD_eq_getElem?_getD, List.getElem?_eq_getElem hk]
  rfl
theorem RdW.getN {w : World} {B n c : Nat} {A : Option Addr} {L : List Nat} (h : RdW w B A n c (nl L)) {k : Nat} (hk : k < n) : ∃ b o, A = some ⟨b, o, none⟩ ∧ b < B ∧ w.cell? ⟨b, o + k, none⟩ = some (.int .u32 ((L.getD k 0 : Nat) : Int)) := by
  obtain ⟨b, o, x, e, hb, hx, hc⟩ := h.get hk
  have hl := h.len
  rw [nl_len] at hl
  rw [nl_get (by omega)] at hx
  injection hx with hx
  exact ⟨b, o, e, hb, by rw [hx]; exact hc⟩
theorem madeW (n : Nat) : (madeCells #[Value.int .u32 0] (n * 1)).toList = (List.replicate n (0 : Int)).map u32v := by
  have e : madeCells #[Value.int .u32 0] (n * 1) = ((List.replicate n (0 : Int)).map u32v).toArray := by
    unfold madeCells
    apply Array.ext
    · simp
    · intro i h1 h2
      have hm : i % #[Value.int .u32 0].size = 0 := by simp [Nat.mod_one]
      simp [u32v, Nat.mod_one]
  rw [e]
theorem nl_zero (n : Nat) : nl (List.replicate n 0) = List.replicate n 0 := by simp [nl]
/-- make([]uint32, n). -/
theorem wpList_makeW {w : World} {ops : Array Oper} {rest : List Oper} {o : Oper} {a : Act} {Q : Exit → Act → World → Prop} (hgd : o.guard = none) (x y : Operand) (ho : o.op = .makeSlice 60 x y)
    (n : Nat) (hx : a.eval x = .int .i64 (n : Int)) (hy : a.eval y = .int .i64 (n : Int)) (hn : n ≤ 1000000)
    (h : ∀ w', OwnW w' w.heap.size w'.heap.size (.slice (some ⟨w.heap.size, 0, none⟩) n n) (nl (List.replicate n 0)) → w.grownBy w' none → Below w.heap.size w w' → wpList Tryz.prog ops Q rest (a.put o.dst (.slice (some ⟨w.heap.size, 0, none⟩) n n)) w') :
    wpList Tryz.prog ops Q (o :: rest) a w := by
  obtain ⟨i0, hi0, hz0, hz1, hz2⟩ := info_parts w32_info
  refine wpList_make_full w hgd x y 60 ho w.heap.size 26 i0 _ 1 Tryz.underlying60 hi0 hz0 hz1 .i64 .i64 _ _ n hx hy rfl rfl (by rw [hz2]; omega) (by simp only [maxLen]; omega) (Nat.le_refl _) ?_
  intro w' h1 h2
  refine h w' ?_ h2 ((Below.refl _ _).grown h2 (Nat.le_refl _) (fun k e => by cases e))
  have e : (nl (List.replicate n 0)).map u32v = (madeCells #[Value.int .u32 0] (n * 1)).toList := by rw [nl_zero, madeW]
  unfold OwnW
  rw [e, nl_len, List.length_replicate]
  exact OwnC.of h1
/-- What a call answers that makes a row of words. -/
def RetW (l : List Int) (w : World) (e : Ending) (w' : World) : Prop :=
  ∃ A c, e = .returned (.slice A l.length c) ∧ OwnW w' w.heap.size w'.heap.size (.slice A l.length c) l ∧ Below w.heap.size w w'
theorem retW {l : List Int} {w w' : World} {v : Value} (h : OwnW w' w.heap.size w'.heap.size v l) (hb : Below w.heap.size w w') : RetW l w (.returned v) w' := by
  obtain ⟨A, c, rfl, _⟩ := h.rd
  exact ⟨A, c, rfl, h, hb⟩
/-- append of words onto a row of the call's own. -/
theorem wpList_appW {w : World} {ops : Array Oper} {rest : List Oper} {o : Oper} {a : Act} {Q : Exit → Act → World → Prop} (hgd : o.guard = none) (s x : Operand)
    (ho : o.op = .call { callee := .builtin .append, args := #[s, x], argTypes := #[60, 60] })
    (lo hi : Nat) (v : Value) (xs : List Int) (hs : a.eval s = v) (hown : OwnW w lo hi v xs) (hlo : lo ≤ w.heap.size)
    (B : Nat) (A : Option Addr) (m c : Nat) (news : List Int) (hx : a.eval x = .slice A m c) (hr : Reads w B 1 A m (news.map u32v)) (hlen : xs.length + m ≤ 1000000)
    (h : ∀ v' w', OwnW w' lo w'.heap.size v' (xs ++ news) → w.grownBy w' v.ownBlock → Below lo w w' → wpList Tryz.prog ops Q rest (a.put o.dst v') w') :
    wpList Tryz.prog ops Q (o :: rest) a w := by
  have hm : news.length = m := by have := hr.1; simp at this; omega
  refine wpList_appC hgd s x 60 ho 26 (.int .u32 0) 1 4 w32_info Tryz.underlying60 rfl (by omega) lo hi v xs.length (xs.map u32v) hs hown hlo B A m c (news.map u32v) hx hr (u32s_one news) (by omega) (by omega) ?_
  intro v' w' h1 h2 h3 h4
  refine h v' w' ?_ h2 h4
  unfold OwnW
  rw [List.length_append, List.map_append, hm]
  exact h1
/-- The same in a region whose orders are held. -/
theorem step_appW {w : World} {ops : Array Oper} {o : Oper} {a : Act} {K : Act → World → Prop} {Q : Exit → Act → World → Prop} {E : Prop} (hgd : o.guard = none) (s x : Operand)
    (ho : o.op = .call { callee := .builtin .append, args := #[s, x], argTypes := #[60, 60] })
    (lo hi : Nat) (v : Value) (xs : List Int) (hs : a.eval s = v) (hown : OwnW w lo hi v xs) (hlo : lo ≤ w.heap.size)
    (B : Nat) (A : Option Addr) (m c : Nat) (news : List Int) (hx : a.eval x = .slice A m c) (hr : Reads w B 1 A m (news.map u32v)) (hlen : xs.length + m ≤ 1000000)
    (h : ∀ v' w', OwnW w' lo w'.heap.size v' (xs ++ news) → w.grownBy w' v.ownBlock → Below lo w w' → K (a.put o.dst v') w') :
    if Region.wanted o (yielded ops a.tmps) = true then Oper.wp Tryz.prog o a w K Q else E := by
  obtain ⟨i0, hi0, hz0, hz1, hz2⟩ := info_parts w32_info
  have hm : news.length = m := by have := hr.1; simp at this; omega
  refine step_append_any w hgd s x 60 ho lo 26 i0 _ 1 4 Tryz.underlying60 hi0 hz0 hz1 hz2 rfl (by omega) v xs.length (xs.map u32v) hs hown.1 B A m c (news.map u32v) hx hr (u32s_one news) (by simp only [maxLen]; omega) (by omega) hlo ?_
  intro v' w' h1 h2 h3
  refine h v' w' ?_ h2 ((Below.refl _ _).grown h2 hlo fun k hk => (hown.1.lt k hk).1)
  unfold OwnW
  rw [List.length_append, List.map_append, hm]
  exact OwnC.of h1
/-- One word behind a row of the call's own: what stood there stands there still. -/
theorem run_appW1 (w : World) (ty : TypeId) (lo hi g n cap : Nat) (xs : List Int) (hown : OwnW w lo hi (.slice (some ⟨g, 0, none⟩) n cap) xs) (hn : xs.length = n) (hlo : lo ≤ w.heap.size) (ad : Addr) (c : Nat) (x : Int) (hr : w.cell? ad = some (.int .u32 x)) (hlen : n + 1 ≤ 1000000) :
    ∃ v' w', (Builtin.append_ #[60, 60] ty #[.slice (some ⟨g, 0, none⟩) n cap, .slice (some ad) 1 c]).run Tryz.prog w = .ok v' w' ∧ OwnW w' lo w'.heap.size v' (xs ++ [x]) ∧ Below lo w w' ∧ ∀ j y, xs[j]? = some y → w'.cell? ⟨g, j, none⟩ = some (.int .u32 y) := by
  subst hn
  obtain ⟨i0, hi0, hz0, hz1, hz2⟩ := info_parts w32_info
  have hc : ∀ j u, [u32v x][j]? = some u → w.cell? (ad.add j) = some u := fun j u hj => by
    rcases j with _ | j
    · simp at hj
      subst hj
      rw [show ad.add 0 = ad from by unfold Addr.add; split <;> simp_all]
      exact hr
    · simp at hj
  have h1 : ∀ u ∈ [u32v x], u.oneCell' = true := fun u hu => by rw [List.mem_singleton.1 hu]; rfl
  have hgl := hown.1.lt g rfl
  have hcell : ∀ j y, xs[j]? = some y → w.cell? ⟨g, j, none⟩ = some (.int .u32 y) := fun j y hy => hown.cellAt hy
  have toW : ∀ {w' : World} {v' : Value} {lo' : Nat}, w'.ownsRow lo' 26 1 v' (xs.length + 1) (xs.map u32v ++ [u32v x]) → OwnW w' lo' w'.heap.size v' (xs ++ [x]) := fun {w' v' lo'} h => by
    unfold OwnW
    rw [List.length_append, List.map_append]
    exact OwnC.of h
  by_cases hroom : xs.length + 1 ≤ cap
  · obtain ⟨w', hrun, r1, r2⟩ := run_append_fits (P := Tryz.prog) w lo 60 ty 26 i0 1 Tryz.underlying60 hi0 hz1 g xs.length cap (xs.map u32v) hown.1 ad 1 c [u32v x] rfl hc h1 hroom
    have ho := toW r1
    refine ⟨_, w', hrun, ho, (Below.refl _ _).grown r2 hlo (by intro k hk; injection hk with hk; omega), fun j y hy => ?_⟩
    exact ho.cellAt (by rw [List.getElem?_append_left (List.getElem?_eq_some_iff.1 hy).1]; exact hy)
  · obtain ⟨v', w', hrun, r1, r2⟩ := run_append_arg_grows (P := Tryz.prog) w 60 ty 26 i0 _ 1 4 Tryz.underlying60 hi0 hz0 hz1 hz2 rfl (by omega) ⟨g, 0, none⟩ xs.length cap (xs.map u32v) (by simp) (hown.1.cells rfl) ad 1 c [u32v x] rfl hc (by omega) (by simp only [maxLen]; omega) (by omega)
    refine ⟨_, w', hrun, (toW r1).mono hlo (Nat.le_refl _), (Below.refl _ _).grown r2 hlo (by intro k hk; cases hk), fun j y hy => ?_⟩
    rw [← hcell j y hy]
    exact World.cell?_of_block (a := ⟨g, j, none⟩) (r2.block g hgl.2 (fun e => by cases e))
theorem step_appW1 {w : World} {ops : Array Oper} {o : Oper} {a : Act} {K : Act → World → Prop} {Q : Exit → Act → World → Prop} {E : Prop} (hgd : o.guard = none) (s x : Operand)
    (ho : o.op = .call { callee := .builtin .append, args := #[s, x], argTypes := #[60, 60] })
    (lo hi g n cap : Nat) (xs : List Int) (hs : a.eval s = .slice (some ⟨g, 0, none⟩) n cap) (hown : OwnW w lo hi (.slice (some ⟨g, 0, none⟩) n cap) xs) (hn : xs.length = n) (hlo : lo ≤ w.heap.size)
    (ad : Addr) (c : Nat) (y : Int) (hx : a.eval x = .slice (some ad) 1 c) (hr : w.cell? ad = some (.int .u32 y)) (hlen : n + 1 ≤ 1000000)
    (h : ∀ v' w', OwnW w' lo w'.heap.size v' (xs ++ [y]) → Below lo w w' → (∀ j y, xs[j]? = some y → w'.cell? ⟨g, j, none⟩ = some (.int .u32 y)) → K (a.put o.dst v') w') :
    if Region.wanted o (yielded ops a.tmps) = true then Oper.wp Tryz.prog o a w K Q else E := by
  have hw : Region.wanted o (yielded ops a.tmps) = true := by simp [Region.wanted, hgd]
  rw [if_pos hw]
  obtain ⟨v', w', hrun, h2, h3, h4⟩ := run_appW1 w o.type lo hi g n cap xs hown hn hlo ad c y hr hlen
  unfold Oper.wp execOp
  simp only [ho, resolve, invoke, builtin, Sem.run_bind, Sem.run_pure, Result.andThen_ok, List.map_toArray, List.map_cons, List.map_nil, hs, hx, hrun]
  exact h v' w' h2 h3 h4
theorem ofInt_u32 (a : Nat) (ha : a < 4294967296) : (BitVec.ofInt 32 (a : Int)).toNat = a := by
  rw [BitVec.ofInt_natCast, BitVec.toNat_ofNat]; exact Nat.mod_eq_of_lt (by omega)
theorem u32_or_nat (a b : Nat) (ha : a < 4294967296) (hb : b < 4294967296) : bits .or .u32 (a : Int) (b : Int) = ((a ||| b : Nat) : Int) := by
  have hx : a ||| b < 2 ^ 32 := Nat.or_lt_two_pow (by omega) (by omega)
  show IntKind.u32.wrap ((BitVec.ofInt 32 (a : Int) ||| BitVec.ofInt 32 (b : Int)).toNat : Int) = _
  rw [BitVec.toNat_or, ofInt_u32 a ha, ofInt_u32 b hb]
  simp only [IntKind.wrap, IntKind.bits, IntKind.signed]
  simp
  omega
/-- Bits below the others. -/
theorem u32_or_add (a k b : Nat) (hb : b < 2 ^ k) (h : a * 2 ^ k + b < 4294967296) : bits .or .u32 ((a * 2 ^ k : Nat) : Int) (b : Int) = ((a * 2 ^ k + b : Nat) : Int) := by
  rw [u32_or_nat _ _ (by omega) (by omega)]
  congr 1
  rw [Nat.mul_comm, ← Nat.two_pow_add_eq_or_of_lt hb]
end Go.Proofs.YtmpladnglfiejaaGreatDoor
end

section
/- Plain: the document's SHA-256, step by step, and that it is the program's. -/
namespace Go.Proofs.YtmpladnglfiejaaGreatDoor
set_option maxRecDepth 1000000
set_option linter.unusedVariables false
set_option linter.unusedSimpArgs false
namespace Rs
/-- A product's inner loop: k steps of it; the limbs so far and what is carried. -/
def tIn (a i : Nat) (b : List Nat) (o : List Nat) : Nat → List Nat × Nat
  | 0 => (o, 0)
  | k + 1 => ((tIn a i b o k).1.set (i + k) ((a * b.getD k 0 + (tIn a i b o k).1.getD (i + k) 0 + (tIn a i b o k).2) % 4294967296), (a * b.getD k 0 + (tIn a i b o k).1.getD (i + k) 0 + (tIn a i b o k).2) / 4294967296)
def tOut (a b : List Nat) : Nat → List Nat
  | 0 => List.replicate (a.length + b.length) 0
  | i + 1 => (tIn (a.getD i 0) i b (tOut a b i) b.length).1.set (i + b.length) ((tIn (a.getD i 0) i b (tOut a b i) b.length).2 % 4294967296)
def times (a b : List Nat) : List Nat := tOut a b a.length
/-- The first i limbs, from above: is a above b? -/
def aboveN (a b : List Nat) : Nat → Bool
  | 0 => false
  | i + 1 => if a.getD i 0 = b.getD i 0 then aboveN a b i else decide (b.getD i 0 < a.getD i 0)
def limbs (x : Nat) : List Nat := [x % 4294967296, x / 4294967296 % 4294967296]
def pow (x : Nat) : Nat → List Nat
  | 0 => limbs x
  | k + 1 => times (pow x k) (limbs x)
def want (p n : Nat) : List Nat := (List.replicate (2 * n) 0).set n p
def isAbove (p n x : Nat) : Bool := aboveN (pow x (n - 1)) (want p n) (2 * n)
def rt (P : Nat → Bool) : Nat → Nat → Nat → Nat
  | 0, low, _ => low
  | f + 1, low, high => if 1 < high - low then (if P ((low + high) / 2) then rt P f low ((low + high) / 2) else rt P f ((low + high) / 2) high) else low
def root (p n : Nat) : Nat := rt (isAbove p n) 38 0 137438953472 % 4294967296
def Lim (l : List Nat) : Prop := ∀ x ∈ l, x < 4294967296
theorem lim_get {l : List Nat} (h : Lim l) (k : Nat) : l.getD k 0 < 4294967296 := by
  rw [List.getD_eq_getElem?_getD]
  rcases hk : l[k]? with _ | x
  · simp
  · exact h x (List.mem_of_getElem? hk)
theorem lim_set {l : List Nat} (h : Lim l) (k x : Nat) (hx : x < 4294967296) : Lim (l.set k x) := fun y hy => by
  rcases List.mem_or_eq_of_mem_set hy with h' | rfl
  · exact h y h'
  · exact hx
theorem lim_zero (n : Nat) : Lim (List.replicate n 0) := fun x hx => by rw [(List.mem_replicate.1 hx).2]; omega
theorem step_lt {a b o c : Nat} (ha : a < 4294967296) (hb : b < 4294967296) (ho : o < 4294967296) (hc : c < 4294967296) : a * b + o + c < 18446744073709551616 ∧ a * b ≤ 18446744065119617025 := by
  have : a * b ≤ 4294967295 * 4294967295 := Nat.mul_le_mul (by omega) (by omega)
  omega
theorem tIn_lim {a i : Nat} {b o : List Nat} (ha : a < 4294967296) (hb : Lim b) (ho : Lim o) : ∀ k, Lim (tIn a i b o k).1 ∧ (tIn a i b o k).2 < 4294967296 ∧ (tIn a i b o k).1.length = o.length
  | 0 => ⟨ho, by simp [tIn], rfl⟩
  | k + 1 => by
    obtain ⟨h1, h2, h3⟩ := tIn_lim (i := i) ha hb ho k
    have := (step_lt ha (lim_get hb k) (lim_get h1 (i + k)) h2).1
    exact ⟨lim_set h1 _ _ (Nat.mod_lt _ (by omega)), by simp only [tIn]; omega, by simp only [tIn, List.length_set, h3]⟩
theorem tOut_lim {a b : List Nat} (ha : Lim a) (hb : Lim b) : ∀ i, Lim (tOut a b i) ∧ (tOut a b i).length = a.length + b.length
  | 0 => ⟨lim_zero _, by simp [tOut]⟩
  | i + 1 => by
    obtain ⟨h1, h2⟩ := tOut_lim ha hb i
    obtain ⟨g1, g2, g3⟩ := tIn_lim (i := i) (lim_get ha i) hb h1 b.length
    exact ⟨lim_set g1 _ _ (Nat.mod_lt _ (by omega)), by simp only [tOut, List.length_set, g3, h2]⟩
theorem times_lim {a b : List Nat} (ha : Lim a) (hb : Lim b) : Lim (times a b) ∧ (times a b).length = a.length + b.length := tOut_lim ha hb _
theorem limbs_lim (x : Nat) : Lim (limbs x) := fun y hy => by
  simp only [limbs, List.mem_cons, List.not_mem_nil, or_false] at hy
  rcases hy with rfl | rfl <;> omega
theorem pow_lim (x : Nat) : ∀ k, Lim (pow x k) ∧ (pow x k).length = 2 * (k + 1)
  | 0 => ⟨limbs_lim x, rfl⟩
  | k + 1 => by
    obtain ⟨h1, h2⟩ := pow_lim x k
    obtain ⟨h3, h4⟩ := times_lim h1 (limbs_lim x)
    exact ⟨h3, by rw [pow, h4, h2]; simp [limbs]; omega⟩
theorem want_lim (p n : Nat) (hp : p < 4294967296) : Lim (want p n) ∧ (want p n).length = 2 * n := ⟨lim_set (lim_zero _) _ _ hp, by simp [want]⟩
theorem rt_le (P : Nat → Bool) : ∀ f low high, low ≤ high → low ≤ rt P f low high ∧ rt P f low high ≤ high
  | 0, low, high, h => ⟨Nat.le_refl _, h⟩
  | f + 1, low, high, h => by
    rw [rt]
    split
    · split
      · have := rt_le P f low ((low + high) / 2) (by omega); omega
      · have := rt_le P f ((low + high) / 2) high (by omega); omega
    · exact ⟨Nat.le_refl _, h⟩
end Rs
theorem roots8 : (Sha.P64.take 8).map (fun p => ((Rs.root p 2 : Nat) : Int)) = Sha.htab := by decide +kernel
theorem roots64 : Sha.P64.map (fun p => ((Rs.root p 3 : Nat) : Int)) = Sha.ktab := by decide +kernel
end Go.Proofs.YtmpladnglfiejaaGreatDoor
end

section
/- The document's SHA-256: above, times. -/
namespace Go.Proofs.YtmpladnglfiejaaGreatDoor
open Go.RowKit
set_option maxRecDepth 100000
set_option linter.unusedVariables false
set_option linter.unusedSimpArgs false
set_option maxHeartbeats 2000000 in
theorem rabove_any (A A' : Option Addr) (m c c' B B' : Nat) (a b : List Nat) (w : World) (ha : RdW w B A m c (nl a)) (hb : RdW w B' A' m c' (nl b)) (hm : m ≤ 1000) (hB : B ≤ w.heap.size) (hB' : B' ≤ w.heap.size) :
    Calls Tryz.prog 68 #[.slice A m c, .slice A' m c'] w fun e w' => e = .returned (.bool (Rs.aboveN a b m)) ∧ Below w.heap.size w w' := by
  have hw0 : IntKind.i64.wrap ((m : Int) - 1) = (m : Int) - 1 := by rw [IntKind.wrap_i64]; omega
  have H := Lib.hid (And.intro ha hb)
  clear ha hb
  go_enter Tryz.func68, Tryz.ntmps68
  go_wp2_with fail
  go_loopw [5] (fun i wr => ∃ (j : Nat) (z : Int), j ≤ m ∧ z = (j : Int) - 1 ∧ i = .int .i64 z ∧ Rs.aboveN a b m = Rs.aboveN a b j ∧ ∃ k, wr = w.drewN k) (fun i _ => (intOf i + 1).toNat)
  case atStart => exact ⟨m, _, Nat.le_refl _, rfl, rfl, rfl, 0, rfl⟩
  case round =>
    obtain ⟨j, z, hj, hz, rfl, he, k, rfl⟩ := hrel
    rcases j with _ | j
    · obtain rfl : z = -1 := by omega
      have HE := Lib.hid he
      clear he hz hj
      go_wp2_with fail
      go_ret
      exact ⟨by rw [HE.out]; rfl, below_drewN (Below.refl _ _) k⟩
    · obtain rfl : z = (j : Int) := by omega
      obtain ⟨b1, o1, rfl, _, q1⟩ := H.out.1.getN (k := j) (by omega)
      obtain ⟨b2, o2, rfl, _, q2⟩ := H.out.2.getN (k := j) (by omega)
      obtain ⟨x, hx⟩ : ∃ x, a.getD j 0 = x := ⟨_, rfl⟩
      obtain ⟨y, hy⟩ : ∃ y, b.getD j 0 = y := ⟨_, rfl⟩
      rw [Rs.aboveN, hx, hy] at he
      rw [hx] at q1
      rw [hy] at q2
      have hjl : j < m := by omega
      have hjI : (j : Int) < (m : Int) := by omega
      have q1' : (w.drewN k).cell? ⟨b1, o1 + j, none⟩ = some (.int .u32 (x : Int)) := q1
      have q2' : (w.drewN k).cell? ⟨b2, o2 + j, none⟩ = some (.int .u32 (y : Int)) := q2
      have w1 : IntKind.i64.wrap ((j : Int) - 1) = (j : Int) - 1 := by rw [IntKind.wrap_i64]; omega
      by_cases hxy : x = y
      · rw [if_pos hxy] at he
        subst hxy
        have HE := Lib.hid he
        clear he hz hx hy
        go_upto_region 4 with fail
        go_quiet (fail)
        go_wp2_with fail
        go_roundw
        case rel => exact ⟨j, _, by omega, rfl, rfl, HE.out, _, rfl⟩
        case measure => first | (simp [intOf]; done) | (simp [intOf]; omega)
      · rw [if_neg hxy] at he
        have hne : ((x : Int) != (y : Int)) = true := by simp; omega
        have HE := Lib.hid (And.intro he hxy)
        clear he hz hx hy hxy
        go_upto_region 4 with fail
        go_quiet (fail)
        go_upto_region 5 with fail
        go_quiet (fail)
        go_wp2_with fail
        go_ret
        refine ⟨?_, below_drewN (below_drewN (below_drewN (Below.refl _ _) _) _) _⟩
        rw [HE.out.1]
        first | rfl | (congr 2; rw [Bool.eq_iff_iff]; simp)
set_option maxHeartbeats 4000000 in
theorem rtimes_any (A A' : Option Addr) (n c n' c' : Nat) (a b : List Nat) (w : World) (ha : RdW w w.heap.size A n c (nl a)) (hb : RdW w w.heap.size A' n' c' (nl b)) (hla : Rs.Lim a) (hlb : Rs.Lim b) (hn : n ≤ 1000) (hn' : n' ≤ 1000) :
    Calls Tryz.prog 67 #[.slice A n c, .slice A' n' c'] w (RetW (nl (Rs.times a b)) w) := by
  have hal : a.length = n := by have := ha.len; rwa [nl_len] at this
  have hbl : b.length = n' := by have := hb.len; rwa [nl_len] at this
  have j0 : IntKind.i64.wrap ((n : Int) + (n' : Int)) = ((n + n' : Nat) : Int) := by rw [IntKind.wrap_i64]; omega
  have H := Lib.hid (And.intro ha (And.intro hb (And.intro hla (And.intro hlb (And.intro hal hbl)))))
  clear ha hb hla hlb hal hbl
  go_enter Tryz.func67, Tryz.ntmps67
  obtain ⟨s, hs⟩ : ∃ s, n + n' = s := ⟨_, rfl⟩
  rw [hs] at j0
  go_wp2_with (first
    | (at_make; refine wpList_makeW rfl _ _ rfl s rfl rfl (by omega) ?_; intro w1 ho1 hg1 hb1)
    | fail)
  have hs1 := hb1.size
  have hzero : nl (List.replicate s 0) = nl (Rs.tOut a b 0) := by rw [Rs.tOut, H.out.2.2.2.2.1, H.out.2.2.2.2.2, hs]
  rw [hzero] at ho1
  have H1 := Lib.hid (And.intro ho1 hb1)
  have hgl : w.heap.size < w1.heap.size := (H1.out.1.1.lt _ rfl).2
  clear ho1 hg1 hb1 hzero
  obtain ⟨g, hg⟩ : ∃ g, w.heap.size = g := ⟨_, rfl⟩
  rw [hg] at hgl hs1 ⊢
  go_loopw [6] (fun iv wr => ∃ i : Nat, i ≤ n ∧ iv = .int .i64 (i : Int) ∧ OwnW wr w.heap.size w1.heap.size (.slice (some ⟨g, 0, none⟩) s s) (nl (Rs.tOut a b i)) ∧ w1.grownBy wr (some g)) (fun iv _ => n - (intOf iv).toNat)
  case atStart => exact ⟨0, Nat.zero_le _, rfl, by rw [← hg]; exact H1.out.1, grown_refl _ _⟩
  case round =>
    obtain ⟨i, hi, rfl, ho, hgr⟩ := hrel
    by_cases hlt : i < n
    · have hltI : (i : Int) < (n : Int) := by omega
      obtain ⟨wo, rfl⟩ : ∃ V, V = wr := ⟨_, rfl⟩
      have HO := Lib.hid (And.intro ho hgr)
      clear ho hgr
      go_wp2_with fail
      go_loopw [7, 8] (fun cv kv wr => ∃ kk : Nat, kk ≤ n' ∧ kv = .int .i64 (kk : Int) ∧ cv = .int .u64 (((Rs.tIn (a.getD i 0) i b (Rs.tOut a b i) kk).2 : Nat) : Int) ∧ OwnW wr w.heap.size w1.heap.size (.slice (some ⟨g, 0, none⟩) s s) (nl (Rs.tIn (a.getD i 0) i b (Rs.tOut a b i) kk).1) ∧ w1.grownBy wr (some g)) (fun _ kv _ => n' - (intOf kv).toNat)
      case atStart => exact ⟨0, Nat.zero_le _, rfl, rfl, HO.out.1, HO.out.2⟩
      case round =>
        obtain ⟨kk, hk, rfl, rfl, ho, hgr⟩ := hrel
        obtain ⟨hL1, hL2, hL3⟩ := Rs.tIn_lim (i := i) (Rs.lim_get H.out.2.2.1 i) H.out.2.2.2.1 (Rs.tOut_lim H.out.2.2.1 H.out.2.2.2.1 i).1 kk
        rw [(Rs.tOut_lim H.out.2.2.1 H.out.2.2.2.1 i).2, H.out.2.2.2.2.1, H.out.2.2.2.2.2, hs] at hL3
        have hln : (nl (Rs.tIn (a.getD i 0) i b (Rs.tOut a b i) kk).1).length = s := by rw [nl_len, hL3]
        by_cases hkl : kk < n'
        · have hkI : (kk : Int) < (n' : Int) := by omega
          have hbe : Below w.heap.size w wr := H1.out.2.grown hgr H1.out.2.size (fun k e => by injection e with e; omega)
          obtain ⟨b1, o1, rfl, hb1, q1⟩ := H.out.1.getN (k := i) (by omega)
          obtain ⟨b2, o2, rfl, hb2, q2⟩ := H.out.2.1.getN (k := kk) (by omega)
          have q1 := (hbe.cell (p := ⟨b1, o1 + i, none⟩) hb1).trans q1
          have q2 := (hbe.cell (p := ⟨b2, o2 + kk, none⟩) hb2).trans q2
          have q3 := ho.cellAt (nl_get (L := (Rs.tIn (a.getD i 0) i b (Rs.tOut a b i) kk).1) (k := i + kk) (by omega))
          have q4 := ho.frozenAt hln (i + kk)
          have hst := Rs.step_lt (Rs.lim_get H.out.2.2.1 i) (Rs.lim_get H.out.2.2.2.1 kk) (Rs.lim_get hL1 (i + kk)) hL2
          have hai := Rs.lim_get H.out.2.2.1 i
          have hbk := Rs.lim_get H.out.2.2.2.1 kk
          have hov := Rs.lim_get hL1 (i + kk)
          have hnx : (Rs.tIn (a.getD i 0) i b (Rs.tOut a b i) (kk + 1)) = ((Rs.tIn (a.getD i 0) i b (Rs.tOut a b i) kk).1.set (i + kk) ((a.getD i 0 * b.getD kk 0 + (Rs.tIn (a.getD i 0) i b (Rs.tOut a b i) kk).1.getD (i + kk) 0 + (Rs.tIn (a.getD i 0) i b (Rs.tOut a b i) kk).2) % 4294967296), (a.getD i 0 * b.getD kk 0 + (Rs.tIn (a.getD i 0) i b (Rs.tOut a b i) kk).1.getD (i + kk) 0 + (Rs.tIn (a.getD i 0) i b (Rs.tOut a b i) kk).2) / 4294967296) := rfl
          obtain ⟨L, hL⟩ : ∃ L, (Rs.tIn (a.getD i 0) i b (Rs.tOut a b i) kk).1 = L := ⟨_, rfl⟩
          obtain ⟨cy, hcy⟩ : ∃ L, (Rs.tIn (a.getD i 0) i b (Rs.tOut a b i) kk).2 = L := ⟨_, rfl⟩
          rw [hL] at ho hln q3 hst hov hnx
          rw [hcy] at hst hL2 hnx ⊢
          obtain ⟨av, hav⟩ : ∃ x, a.getD i 0 = x := ⟨_, rfl⟩
          obtain ⟨bv, hbv⟩ : ∃ x, b.getD kk 0 = x := ⟨_, rfl⟩
          obtain ⟨ov, hovE⟩ : ∃ x, L.getD (i + kk) 0 = x := ⟨_, rfl⟩
          rw [hav] at q1 hst hai
          rw [hbv] at q2 hst hbk hnx
          rw [hovE] at q3 hst hov hnx
          obtain ⟨pv, hpv⟩ : ∃ x, av * bv = x := ⟨_, rfl⟩
          have hpvI : (av : Int) * (bv : Int) = (pv : Int) := by rw [← hpv]; push_cast; rfl
          obtain ⟨qv, hqv⟩ : ∃ x, pv + ov = x := ⟨_, rfl⟩
          obtain ⟨xv, hxv⟩ : ∃ x, qv + cy = x := ⟨_, rfl⟩
          obtain ⟨lo, hlo⟩ : ∃ x, xv % 4294967296 = x := ⟨_, rfl⟩
          obtain ⟨hi', hhi⟩ : ∃ x, xv / 4294967296 = x := ⟨_, rfl⟩
          obtain ⟨p, hp⟩ : ∃ x, i + kk = x := ⟨_, rfl⟩
          rw [hpv] at hst
          have hnx2 : (Rs.tIn (a.getD i 0) i b (Rs.tOut a b i) (kk + 1)) = (L.set p lo, hi') := by
            rw [hnx, hav, hpv, hqv, hxv, hlo, hhi, hp]
          have m1 : IntKind.u64.wrap ((av : Int) * (bv : Int)) = (pv : Int) := by rw [hpvI, IntKind.wrap_u64]; omega
          have m2 : IntKind.u64.wrap ((pv : Int) + (ov : Int)) = (qv : Int) := by rw [IntKind.wrap_u64]; omega
          have m3 : IntKind.u64.wrap ((qv : Int) + (cy : Int)) = (xv : Int) := by rw [IntKind.wrap_u64]; omega
          have m4 : IntKind.u32.wrap (xv : Int) = (lo : Int) := by simp only [IntKind.wrap, IntKind.bits, IntKind.signed]; simp; omega
          have m5 : (xv : Int) / 4294967296 = (hi' : Int) := by omega
          have m6 : IntKind.i64.wrap ((i : Int) + (kk : Int)) = (p : Int) := by rw [IntKind.wrap_i64]; omega
          have m7 : IntKind.u64.wrap (av : Int) = (av : Int) := by rw [IntKind.wrap_u64]; omega
          have m8 : IntKind.u64.wrap (bv : Int) = (bv : Int) := by rw [IntKind.wrap_u64]; omega
          have m9 : IntKind.u64.wrap (ov : Int) = (ov : Int) := by rw [IntKind.wrap_u64]; omega
          have hps : p < s := by omega
          have hpI : (p : Int) < (s : Int) := by omega
          rw [hp] at q3 q4
          have HS := Lib.hid (And.intro (ho.stored hln p (lo : Int)) (And.intro hgr hnx2))
          clear ho hgr hL3 hln hL1 hnx hnx2 hst hL hcy hav hbv hovE hpv hqv hxv hlo hhi hp hpvI hbe
          go_upto_region 9 with fail
          go_quiet (fail)
          go_wp2_with fail
          refine ⟨⟨kk + 1, by omega, by simp, by rw [HS.out.2.2], ?_, ?_⟩, ?_⟩
          · rw [HS.out.2.2]
            have h1 := HS.out.1
            rw [nl_set] at h1
            exact h1.keep fun k _ _ => rfl
          · exact grownBy_store (grownBy_drewN HS.out.2.1 nq) _ _
          · simp [intOf]; omega
        · have hkI : ¬ ((kk : Int) < (n' : Int)) := by omega
          obtain rfl : kk = n' := by omega
          have q3 := ho.cellAt (nl_get (L := (Rs.tIn (a.getD i 0) i b (Rs.tOut a b i) kk).1) (k := i + kk) (by omega))
          have q4 := ho.frozenAt hln (i + kk)
          have hnx : Rs.tOut a b (i + 1) = (Rs.tIn (a.getD i 0) i b (Rs.tOut a b i) kk).1.set (i + kk) ((Rs.tIn (a.getD i 0) i b (Rs.tOut a b i) kk).2 % 4294967296) := by rw [Rs.tOut, H.out.2.2.2.2.2]
          obtain ⟨L, hL⟩ : ∃ L, (Rs.tIn (a.getD i 0) i b (Rs.tOut a b i) kk).1 = L := ⟨_, rfl⟩
          obtain ⟨cy, hcy⟩ : ∃ L, (Rs.tIn (a.getD i 0) i b (Rs.tOut a b i) kk).2 = L := ⟨_, rfl⟩
          rw [hL] at ho hln q3 hnx
          rw [hcy, Nat.mod_eq_of_lt (by rw [← hcy]; exact hL2)] at hnx
          rw [hcy] at hL2 ⊢
          obtain ⟨ov, hovE⟩ : ∃ x, L.getD (i + kk) 0 = x := ⟨_, rfl⟩
          rw [hovE] at q3
          obtain ⟨p, hp⟩ : ∃ x, i + kk = x := ⟨_, rfl⟩
          rw [hp] at q3 q4 hnx
          have m4 : IntKind.u32.wrap (cy : Int) = (cy : Int) := by simp only [IntKind.wrap, IntKind.bits, IntKind.signed]; simp; omega
          have m6 : IntKind.i64.wrap ((i : Int) + (kk : Int)) = (p : Int) := by rw [IntKind.wrap_i64]; omega
          have hps : p < s := by omega
          have hpI : (p : Int) < (s : Int) := by omega
          have HS := Lib.hid (And.intro (ho.stored hln p (cy : Int)) (And.intro hgr hnx))
          clear ho hgr hL3 hln hL1 hnx hL hcy hovE hp
          go_wp2_with fail
          refine ⟨⟨i + 1, by omega, by simp, ?_, ?_⟩, ?_⟩
          · rw [HS.out.2.2]
            have h1 := HS.out.1
            rw [nl_set] at h1
            exact h1
          · exact grownBy_store HS.out.2.1 _ _
          · simp [intOf]; omega
    · obtain rfl : i = n := by omega
      have hlI : ¬ ((i : Int) < (i : Int)) := by omega
      have hbe : Below w.heap.size w wr := H1.out.2.grown hgr H1.out.2.size (fun k e => by injection e with e; omega)
      have hgs := hgr.size
      have HF := Lib.hid (And.intro ho hbe)
      have htl := (Rs.tOut_lim H.out.2.2.1 H.out.2.2.2.1 i).2
      rw [H.out.2.2.2.2.1, H.out.2.2.2.2.2, hs] at htl
      have HT := Lib.hid htl
      clear ho hbe hgr htl
      go_wp2_with fail
      go_ret
      refine retW ?_ HF.out.2
      unfold Rs.times
      rw [H.out.2.2.2.2.1]
      exact HF.out.1.mono (Nat.le_refl _) hgs
end Go.Proofs.YtmpladnglfiejaaGreatDoor
end

section
/- The document's SHA-256: root. -/
namespace Go.Proofs.YtmpladnglfiejaaGreatDoor
open Go.RowKit
set_option maxRecDepth 100000
set_option linter.unusedVariables false
set_option linter.unusedSimpArgs false
theorem rt_zero (P : Nat → Bool) (f lo hi : Nat) (h : ¬ 1 < hi - lo) : Rs.rt P f lo hi = lo := by
  cases f with
  | zero => rfl
  | succ f => rw [Rs.rt, if_neg h]
set_option maxHeartbeats 4000000 in
theorem rroot_any (p n : Nat) (hp : p < 4294967296) (hn : n = 2 ∨ n = 3) (w : World) :
    Calls Tryz.prog 47 #[.int .u32 (p : Int), .int .i64 (n : Int)] w fun e w' => e = .returned (.int .u32 ((Rs.root p n : Nat) : Int)) ∧ Below w.heap.size w w' := by
  obtain ⟨s, hs⟩ : ∃ s, 2 * n = s := ⟨_, rfl⟩
  have j0 : IntKind.i64.wrap (2 * (n : Int)) = (s : Int) := by rw [IntKind.wrap_i64]; omega
  have hns : n < s := by omega
  have hnI : (n : Int) < (s : Int) := by omega
  have hwl := Rs.want_lim p n hp
  rw [hs] at hwl
  have HW := Lib.hid (And.intro hwl hs)
  clear hwl
  go_enter Tryz.func47, Tryz.ntmps47
  go_wp2_with (first
    | (at_make; refine wpList_makeW rfl _ _ rfl s rfl rfl (by omega) ?_; intro w1 ho1 hg1 hb1; have q1 := ho1.cellAt (nl_get (L := List.replicate s 0) (k := n) (by simp; omega)); have f1 := ho1.frozenAt (by rw [nl_len]; simp) n; have ho2 := ho1.stored (by rw [nl_len]; simp) n (p : Int); have HM := Lib.hid (And.intro ho2 (And.intro hb1 (ho1.1.lt _ rfl).2)); clear ho1 hg1 hb1 ho2)
    | fail)
  have hset : (nl (List.replicate s 0)).set n (p : Int) = nl (Rs.want p n) := by rw [nl_set]; unfold Rs.want; rw [HW.out.2]
  obtain ⟨w2, hw2⟩ : ∃ x, w1.setCell ⟨w.heap.size, n, none⟩ (.int .u32 (p : Int)) = x := ⟨_, rfl⟩
  rw [hw2] at HM ⊢
  have hoW := HM.out.1
  rw [hset] at hoW
  have hb02 : Below w.heap.size w w2 := by
    rw [← hw2]
    exact HM.out.2.1.grown (grownBy_set w1 ⟨w.heap.size, n, none⟩ _) HM.out.2.1.size (fun k e => by cases e; exact Nat.le_refl _)
  have hs2 : w2.heap.size = w1.heap.size := by rw [← hw2]; simp
  obtain ⟨AW, cW, eW, rW⟩ := hoW.rd
  have hWl := HW.out.1.2
  rw [nl_len, hWl] at eW rW
  injection eW with e1 e2 e3
  subst e1 e3
  have H2 := Lib.hid (And.intro (rW.more (Nat.le_of_eq hs2.symm)) hb02)
  clear hset hw2 hoW hb02 hs2 HM rW hWl q1 f1 e2
  obtain ⟨g, hg⟩ : ∃ g, w.heap.size = g := ⟨_, rfl⟩
  rw [hg] at H2 ⊢
  obtain ⟨P, hP⟩ : ∃ P, Rs.isAbove p n = P := ⟨_, rfl⟩
  obtain ⟨RV, hRV⟩ : ∃ v, Rs.rt P 38 0 137438953472 = v := ⟨_, rfl⟩
  have HV := Lib.hid (And.intro hRV hP)
  go_loopw [6, 7] (fun lv hv wr => ∃ f lo hi : Nat, lv = .int .u64 (lo : Int) ∧ hv = .int .u64 (hi : Int) ∧ lo ≤ hi ∧ hi ≤ 137438953472 ∧ hi - lo ≤ 2 ^ (f - 1) ∧ RV = Rs.rt P f lo hi ∧ Below w2.heap.size w2 wr) (fun lv hv _ => (intOf hv - intOf lv).toNat)
  case atStart => exact ⟨38, 0, 137438953472, rfl, rfl, by omega, by omega, by decide, HV.out.1.symm, Below.refl _ _⟩
  case round =>
    obtain ⟨f, lo, hi, rfl, rfl, hlh, hhm, hf, hrt, hb⟩ := hrel
    have j1 : IntKind.u64.wrap ((hi : Int) - (lo : Int)) = (hi : Int) - (lo : Int) := by rw [IntKind.wrap_u64]; omega
    by_cases hgt : 1 < hi - lo
    · have hgtI : (1 : Int) < (hi : Int) - (lo : Int) := by omega
      obtain ⟨f, rfl⟩ : ∃ k, f = k + 1 := by
        rcases f with _ | f
        · simp at hf; omega
        · exact ⟨f, rfl⟩
      rw [Rs.rt, if_pos hgt] at hrt
      obtain ⟨x, hx⟩ : ∃ x, (lo + hi) / 2 = x := ⟨_, rfl⟩
      rw [hx] at hrt
      have hf2 : hi - lo ≤ 2 * 2 ^ (f - 1) := by
        rcases f with _ | f
        · simp at hf; omega
        · have : 2 ^ (f + 1 + 1 - 1) = 2 * 2 ^ (f + 1 - 1) := by simp [Nat.pow_succ]; omega
          omega
      have j2 : IntKind.u64.wrap ((lo : Int) + (hi : Int)) = (lo : Int) + (hi : Int) := by rw [IntKind.wrap_u64]; omega
      have j3 : Int.tdiv ((lo : Int) + (hi : Int)) 2 = (x : Int) := by rw [Int.tdiv_eq_ediv_of_nonneg (by omega), ← hx]; omega
      have j3' : ((lo : Int) + (hi : Int)) / 2 = (x : Int) := by rw [← hx]; omega
      have j4 : IntKind.u64.wrap (x : Int) = (x : Int) := by rw [IntKind.wrap_u64]; omega
      obtain ⟨xl, hxl⟩ : ∃ y, x % 4294967296 = y := ⟨_, rfl⟩
      obtain ⟨xh, hxh⟩ : ∃ y, x / 4294967296 = y := ⟨_, rfl⟩
      have j5 : IntKind.u32.wrap (x : Int) = (xl : Int) := by simp only [IntKind.wrap, IntKind.bits, IntKind.signed]; simp; omega
      have j6 : (x : Int) / 4294967296 = (xh : Int) := by omega
      have j7 : IntKind.u32.wrap (xh : Int) = (xh : Int) := by simp only [IntKind.wrap, IntKind.bits, IntKind.signed]; simp; omega
      have hlm : Rs.limbs x = [xl, xh] := by unfold Rs.limbs; rw [hxl, hxh, Nat.mod_eq_of_lt (by omega)]
      have HR := Lib.hid (And.intro hrt (And.intro hb (And.intro hlm (And.intro hx (And.intro hf2 (And.intro hlh hhm))))))
      clear hrt hb hlm hf hf2
      clear hRV hP
      go_upto_region 8 with fail
      have hrl : RdW (wr.alloc (.cells #[.int .u32 (xl : Int), .int .u32 (xh : Int)] 26)) (wr.heap.size + 1) (some ⟨wr.heap.size, 0, none⟩) 2 2 (nl (Rs.limbs x)) := by
        rw [HR.out.2.2.1]
        refine ⟨rfl, Nat.le_refl _, by omega, fun _ => ⟨_, _, rfl, by omega⟩, ?_⟩
        have h := reads_block wr 26 [.int .u32 (xl : Int), .int .u32 (xh : Int)] _ rfl
        rw [World.size_alloc] at h
        exact h
      have hb3 : Below w2.heap.size w2 (wr.alloc (.cells #[.int .u32 (xl : Int), .int .u32 (xh : Int)] 26)) := HR.out.2.1.alloc HR.out.2.1.size _
      have hs3 : (wr.alloc (.cells #[.int .u32 (xl : Int), .int .u32 (xh : Int)] 26)).heap.size = wr.heap.size + 1 := by simp
      obtain ⟨w3, hw3⟩ : ∃ V, wr.alloc (.cells #[.int .u32 (xl : Int), .int .u32 (xh : Int)] 26) = V := ⟨_, rfl⟩
      rw [hw3] at hrl hb3 hs3 ⊢
      obtain ⟨h, hh⟩ : ∃ g, wr.heap.size = g := ⟨_, rfl⟩
      rw [hh] at hrl hs3 ⊢
      have H3 := Lib.hid (And.intro (hrl.more (Nat.le_of_eq hs3.symm)) hb3)
      clear hrl hb3 hs3 hw3 hh
      go_wp2_with fail
      go_loopw [10, 11] (fun yv iv wx => ∃ (j c : Nat) (Y : Option Addr), 1 ≤ j ∧ j ≤ n ∧ iv = .int .i64 (j : Int) ∧ yv = .slice Y (2 * j) c ∧ RdW wx wx.heap.size Y (2 * j) c (nl (Rs.pow x (j - 1))) ∧ Below w3.heap.size w3 wx) (fun _ iv _ => n - (intOf iv).toNat)
      case atStart => exact ⟨1, 2, _, by omega, by omega, rfl, rfl, H3.out.1, Below.refl _ _⟩
      case round =>
        obtain ⟨j, c, Y, hj1, hjn, rfl, rfl, hrY, hb4⟩ := hrel
        have hLx := (Rs.pow_lim x (j - 1)).1
        have hb2x : Below w2.heap.size w2 wr := H3.out.2.trans (hb4.mono H3.out.2.size)
        have hrl4 := H3.out.1.up hb4
        by_cases hjl : j < n
        · have hjI : (j : Int) < (n : Int) := by omega
          have htm := rtimes_any Y (some ⟨h, 0, none⟩) (2 * j) c 2 2 (Rs.pow x (j - 1)) (Rs.limbs x) wr hrY hrl4 hLx (Rs.limbs_lim x) (by omega) (by omega)
          have htl := (Rs.times_lim hLx (Rs.limbs_lim x)).2
          rw [(Rs.pow_lim x (j - 1)).2, show (Rs.limbs x).length = 2 from rfl] at htl
          have hpw : Rs.times (Rs.pow x (j - 1)) (Rs.limbs x) = Rs.pow x j := by
            obtain ⟨q, rfl⟩ : ∃ q, j = q + 1 := ⟨j - 1, by omega⟩
            rfl
          obtain ⟨j2, hj2⟩ : ∃ q, 2 * j = q := ⟨_, rfl⟩
          rw [hj2] at htm ⊢
          have HT := Lib.hid (And.intro htm (And.intro htl (And.intro hpw hb4)))
          clear htm htl hpw hb4 hrY hb2x hrl4 hLx
          go_wp2_with fail
          refine HT.out.1.mono ?_
          rintro e w5 ⟨Y5, c5, rfl, ho5, hb5⟩
          obtain ⟨_, _, e5, r5⟩ := ho5.rd
          injection e5 with e1 e2 e3
          subst e1 e3
          have hl5 : (nl (Rs.times (Rs.pow x (j - 1)) (Rs.limbs x))).length = 2 * (j + 1) := by rw [nl_len, HT.out.2.1]; omega
          have hpw := HT.out.2.2.1
          rw [hl5, hpw] at r5
          rw [hl5]
          have H5 := Lib.hid (And.intro r5 (HT.out.2.2.2.trans (hb5.mono HT.out.2.2.2.size)))
          clear ho5 hb5 r5 hl5 hpw e2
          go_wp2_with fail
          refine ⟨⟨j + 1, _, _, by omega, by omega, by simp, rfl, H5.out.1, H5.out.2⟩, ?_⟩
          simp [intOf]; omega
        · have hjI : ¬ ((j : Int) < (n : Int)) := by omega
          obtain rfl : j = n := by omega
          have hrW := (H2.out.1.below hb2x).more hb2x.size
          rw [hs] at hrY ⊢
          have hab := rabove_any Y (some ⟨g, 0, none⟩) s c s wr.heap.size wr.heap.size (Rs.pow x (j - 1)) (Rs.want p j) wr hrY hrW (by omega) (Nat.le_refl _) (Nat.le_refl _)
          have hPx : Rs.aboveN (Rs.pow x (j - 1)) (Rs.want p j) s = P x := by rw [← HV.out.2, ← hs]; rfl
          rw [hPx] at hab
          have HT := Lib.hid (And.intro hab hb2x)
          clear hab hb2x hrY hrl4 hLx hrW hPx hb4
          go_wp2_with fail
          refine HT.out.1.mono ?_
          rintro e w5 ⟨rfl, hb5⟩
          have hb25 := HT.out.2.trans (hb5.mono HT.out.2.size)
          have hrt := HR.out.1
          have HB := Lib.hid (And.intro hb25 HR.out.2.2.2)
          cases hPv : P x
          · rw [hPv, if_neg (by decide)] at hrt
            have HE := Lib.hid hrt
            clear hb5 hb25 hrt hPv
            go_wp2_with fail
            refine ⟨⟨f, x, hi, rfl, rfl, ?_, ?_, ?_, HE.out, HB.out.1⟩, ?_⟩
            · have := HB.out.2; omega
            · exact HB.out.2.2.2.2
            · have := HB.out.2; omega
            · have := HB.out.2; simp [intOf]; omega
          · rw [hPv, if_pos rfl] at hrt
            have HE := Lib.hid hrt
            clear hb5 hb25 hrt hPv
            go_wp2_with fail
            refine ⟨⟨f, lo, x, rfl, rfl, ?_, ?_, ?_, HE.out, HB.out.1⟩, ?_⟩
            · have := HB.out.2; omega
            · have := HB.out.2; omega
            · have := HB.out.2; omega
            · have := HB.out.2; simp [intOf]; omega
    · have hgtI : ¬ ((1 : Int) < (hi : Int) - (lo : Int)) := by omega
      rw [rt_zero _ _ _ _ hgt] at hrt
      have HR := Lib.hid (And.intro hrt hb)
      clear hrt hb hf hRV hP
      have j8 : IntKind.u32.wrap (lo : Int) = ((lo % 4294967296 : Nat) : Int) := by simp only [IntKind.wrap, IntKind.bits, IntKind.signed]; simp
      go_wp2_with fail
      go_ret
      refine ⟨?_, H2.out.2.trans (HR.out.2.mono (by have := H2.out.2.size; omega))⟩
      unfold Rs.root
      rw [HV.out.2, HV.out.1, HR.out.1]
      first | rfl | simp
end Go.Proofs.YtmpladnglfiejaaGreatDoor
end

section
/- The document's SHA-256: the first primes, the roots. -/
namespace Go.Proofs.YtmpladnglfiejaaGreatDoor
open Go.RowKit
set_option maxRecDepth 100000
set_option linter.unusedVariables false
set_option linter.unusedSimpArgs false
namespace Sha
theorem prun_prefix (k : Nat) : ∀ d, prun k = (prun (k + d)).take (prun k).length
  | 0 => by simp
  | d + 1 => by
    have ih := prun_prefix k d
    have hm := prun_mono k d
    rw [← Nat.add_assoc, prun, pstep]
    split
    · exact ih
    · rw [List.take_append_of_le_length hm]
      exact ih
theorem prun_take {k N : Nat} (hk : k ≤ 310) (h : (prun k).length = N) : prun k = P64.take N := by
  have := prun_prefix k (310 - k)
  rw [show k + (310 - k) = 310 by omega, h] at this
  exact this
end Sha
set_option maxHeartbeats 4000000 in
theorem rprimes_any (N : Nat) (hN : N ≤ 64) (w : World) :
    Calls Tryz.prog 46 #[.int .i64 (N : Int)] w (RetW (nl (Sha.P64.take N)) w) := by
  go_enter Tryz.func46, Tryz.ntmps46
  go_wp2_with fail
  go_loopw [3, 4] (fun lv pv wr => ∃ k : Nat, k ≤ 310 ∧ (Sha.prun k).length ≤ N ∧ pv = .int .u32 ((2 + k : Nat) : Int) ∧ OwnW wr w.heap.size wr.heap.size lv (nl (Sha.prun k)) ∧ Below w.heap.size w wr) (fun _ pv _ => 312 - (intOf pv).toNat)
  case atStart => exact ⟨0, by omega, by simp [Sha.prun], rfl, OwnW.nil_, Below.refl _ _⟩
  case round =>
    obtain ⟨k, hk, hkN, rfl, ho, hb⟩ := hrel
    obtain ⟨A, c, rfl, hr⟩ := ho.rd
    obtain ⟨m, hm⟩ : ∃ m, (Sha.prun k).length = m := ⟨_, rfl⟩
    rw [nl_len, hm] at hr ho ⊢
    rw [hm] at hkN
    obtain ⟨p, hp⟩ : ∃ p, 2 + k = p := ⟨_, rfl⟩
    rw [hp]
    have HO := Lib.hid (And.intro ho (And.intro hb (And.intro hm (And.intro hr hp))))
    clear ho hb hm hr hp
    by_cases hlt : m < N
    · have hltI : (m : Int) < (N : Int) := by omega
      have hk3 : k < 310 := Sha.prun_lt (by rw [HO.out.2.2.1]; omega)
      have hpl : p < 1000 := by have := HO.out.2.2.2.2; omega
      go_wp2_with fail
      go_loopw [5, 6] (fun bv iv wx => ∃ j : Nat, j ≤ m ∧ iv = .int .i64 (j : Int) ∧ bv = .bool (!((Sha.prun k).take j).any fun q => p % q == 0) ∧ wx = wr) (fun _ iv _ => m - (intOf iv).toNat)
      case atStart => exact ⟨0, Nat.zero_le _, rfl, rfl, rfl⟩
      case round =>
        obtain ⟨j, hj, rfl, rfl, rfl⟩ := hrel
        obtain ⟨bb, hbb⟩ : ∃ x, ((Sha.prun k).take j).any (fun q => p % q == 0) = x := ⟨_, rfl⟩
        rw [hbb]
        by_cases hjl : j < m
        · have hjI : (j : Int) < (m : Int) := by omega
          obtain ⟨b, o, rfl, _, q1⟩ := HO.out.2.2.2.1.getN hjl
          obtain ⟨q, hq⟩ : ∃ x, (Sha.prun k).getD j 0 = x := ⟨_, rfl⟩
          rw [hq] at q1
          have hqg : (Sha.prun k)[j]? = some q := by
            rw [List.getElem?_eq_getElem (by rw [HO.out.2.2.1]; exact hjl), ← hq, List.getD_eq_getElem?_getD, List.getElem?_eq_getElem (by rw [HO.out.2.2.1]; exact hjl)]
            rfl
          have hq2 := Sha.prun_mem k q (List.mem_of_getElem? hqg)
          have hq0 : ((q : Int) == 0) = false := by simp; omega
          have hq1 : ¬ (q : Int) = 0 := by omega
          have htk : ((Sha.prun k).take (j + 1)).any (fun q => p % q == 0) = (bb || (p % q == 0)) := by
            rw [take_snoc hqg, List.any_append, hbb]
            simp
          obtain ⟨r, hr⟩ : ∃ x, p % q = x := ⟨_, rfl⟩
          have hmod : Int.tmod (p : Int) (q : Int) = (r : Int) := by rw [← hr]; rfl
          rw [hr] at htk
          have hre : ((r : Int) != 0) = !(r == 0) := by
            rw [Bool.eq_iff_iff]; simp
          have HT := Lib.hid (And.intro htk hr)
          clear htk hbb hq hqg hq2 hr
          cases bb
          · go_wp2_with fail
            go_roundw
            case rel => exact ⟨j + 1, by omega, by go_num, by rw [HT.out.1]; simp [bne], by first | rfl | trivial⟩
            case measure => first | (simp [intOf]; done) | (simp [intOf]; omega)
          · go_wp2_with fail
            go_roundw
            case rel => exact ⟨j + 1, by omega, by go_num, by rw [HT.out.1]; simp, by first | rfl | trivial⟩
            case measure => first | (simp [intOf]; done) | (simp [intOf]; omega)
        · have hjI : ¬ ((j : Int) < (m : Int)) := by omega
          obtain rfl : j = m := by omega
          rw [List.take_of_length_le (by rw [HO.out.2.2.1]; exact Nat.le_refl _)] at hbb
          have j1 : IntKind.u32.wrap ((p : Int) + 1) = ((p + 1 : Nat) : Int) := by simp only [IntKind.wrap, IntKind.bits, IntKind.signed]; simp; omega
          have hstep : Sha.prun (k + 1) = if bb then Sha.prun k else Sha.prun k ++ [p] := by
            rw [Sha.prun, Sha.pstep, HO.out.2.2.2.2, hbb]
          have HB := Lib.hid hstep
          clear hbb hstep
          cases bb
          · go_wp2_with (first
              | (at_builtin
                 refine wpList_appW rfl (.tmp 30) (.tmp 32) rfl w.heap.size wr.heap.size (.slice A j c) (nl (Sha.prun k)) rfl (OwnC.alloc HO.out.1 (Nat.le_refl _) _) ?_ (wr.alloc (.cells #[.int .u32 (p : Int)] 26)).heap.size (some ⟨wr.heap.size, 0, none⟩) 1 1 [(p : Int)] rfl ?_ ?_ ?_
                 · have := HO.out.2.1.size; simp; omega
                 · exact reads_block wr 26 [.int .u32 (p : Int)] _ rfl
                 · rw [nl_len, HO.out.2.2.1]; omega
                 intro v7 w7 ho7 hg7 hb7
                 have H7 := Lib.hid (And.intro ho7 hb7)
                 clear ho7 hg7 hb7)
              | fail)
            refine ⟨⟨k + 1, by omega, ?_, ?_, ?_, ?_⟩, ?_⟩
            · rw [HB.out, if_neg (by decide), List.length_append, HO.out.2.2.1]; simp; omega
            · have := HO.out.2.2.2.2
              congr 2
              omega
            · rw [HB.out, if_neg (by decide)]
              have := H7.out.1
              rw [show nl (Sha.prun k) ++ [(p : Int)] = nl (Sha.prun k ++ [p]) from by simp [nl]] at this
              exact this
            · exact (HO.out.2.1.alloc HO.out.2.1.size _).trans H7.out.2
            · have := HO.out.2.2.2.2
              simp [intOf]; omega
          · go_wp2_with fail
            refine ⟨⟨k + 1, by omega, ?_, ?_, ?_, HO.out.2.1⟩, ?_⟩
            · rw [HB.out, if_pos rfl, HO.out.2.2.1]; omega
            · have := HO.out.2.2.2.2
              congr 2
              omega
            · rw [HB.out, if_pos rfl]
              exact HO.out.1
            · have := HO.out.2.2.2.2
              simp [intOf]; omega
    · have hltI : ¬ ((m : Int) < (N : Int)) := by omega
      obtain rfl : m = N := by omega
      go_wp2_with fail
      go_ret
      rw [← Sha.prun_take hk HO.out.2.2.1]
      exact retW HO.out.1 HO.out.2.1
theorem rep_set {L : List Nat} {f : Nat → Nat} {i N q : Nat} (hi : i < N) (hL : L.length = N) (hq : L[i]? = some q) : (nl ((L.take i).map f ++ List.replicate (N - i) 0)).set i ((f q : Nat) : Int) = nl ((L.take (i + 1)).map f ++ List.replicate (N - (i + 1)) 0) := by
  rw [nl_set, take_snoc hq, List.map_append, List.set_append_right _ _ (by simp; omega)]
  obtain ⟨d, hd⟩ : ∃ d, N - i = d + 1 := ⟨N - i - 1, by omega⟩
  rw [hd, show N - (i + 1) = d by omega, List.replicate_succ]
  simp [show i - min i L.length = 0 by omega]
theorem rep_len {L : List Nat} {f : Nat → Nat} {i N : Nat} (hi : i ≤ N) (hL : L.length = N) : (nl ((L.take i).map f ++ List.replicate (N - i) 0)).length = N := by
  rw [nl_len]
  simp
  omega
set_option maxHeartbeats 4000000 in
theorem rroots_any (N n : Nat) (hN : N ≤ 64) (hn : n = 2 ∨ n = 3) (w : World) :
    Calls Tryz.prog 26 #[.int .i64 (N : Int), .int .i64 (n : Int)] w (RetW (nl ((Sha.P64.take N).map fun p => Rs.root p n)) w) := by
  have hl64 : Sha.P64.length = 64 := Sha.prun_310
  have hlN : (Sha.P64.take N).length = N := by rw [List.length_take, hl64]; omega
  have hsm : ∀ q ∈ Sha.P64.take N, q < 4294967296 := fun q hq => by have := Sha.prun_mem 310 q (List.mem_of_mem_take hq); omega
  obtain ⟨L, hL⟩ : ∃ L, Sha.P64.take N = L := ⟨_, rfl⟩
  rw [hL] at hlN hsm
  have H := Lib.hid (And.intro hlN (And.intro hsm hL))
  clear hlN hsm hl64
  go_enter Tryz.func26, Tryz.ntmps26
  go_wp2_with fail
  refine (rprimes_any N hN w).mono ?_
  rw [hL]
  rintro e w1 ⟨A, c, rfl, ho1, hb1⟩
  obtain ⟨_, _, e1, r1⟩ := ho1.rd
  injection e1 with a1 a2 a3
  subst a1 a3
  rw [nl_len, H.out.1] at r1 ⊢
  have H1 := Lib.hid (And.intro r1 hb1)
  clear ho1 hb1 r1 hL a2
  go_wp2_with (first
    | (at_make; refine wpList_makeW rfl _ _ rfl N rfl rfl (by omega) ?_; intro w2 ho2 hg2 hb2; have HM := Lib.hid (And.intro ho2 (And.intro hb2 (ho2.1.lt _ rfl).2)); clear ho2 hg2 hb2)
    | fail)
  have hb02 := H1.out.2.trans (HM.out.2.1.mono H1.out.2.size)
  have hrL := H1.out.1.up HM.out.2.1
  have hoO := HM.out.1
  have hgl := HM.out.2.2
  have hg1 := H1.out.2.size
  obtain ⟨g, hg⟩ : ∃ g, w1.heap.size = g := ⟨_, rfl⟩
  rw [hg] at hoO hgl hg1 ⊢
  have H2 := Lib.hid (And.intro hb02 (And.intro hrL hoO))
  clear hb02 hrL hoO
  go_loopw [7] (fun iv wr => ∃ i : Nat, i ≤ N ∧ iv = .int .i64 (i : Int) ∧ OwnW wr g wr.heap.size (.slice (some ⟨g, 0, none⟩) N N) (nl ((L.take i).map (fun p => Rs.root p n) ++ List.replicate (N - i) 0)) ∧ w2.heap.size ≤ wr.heap.size ∧ Below g w2 wr) (fun iv _ => N - (intOf iv).toNat)
  case atStart => exact ⟨0, Nat.zero_le _, rfl, by simpa using H2.out.2.2, Nat.le_refl _, Below.refl _ _⟩
  case round =>
    obtain ⟨i, hi, rfl, ho, hsz, hb⟩ := hrel
    have hln := rep_len (f := fun p => Rs.root p n) hi H.out.1
    by_cases hlt : i < N
    · have hltI : (i : Int) < (N : Int) := by omega
      have hr1 := H1.out.1
      rw [hg] at hr1
      have hb12 := HM.out.2.1
      rw [hg] at hb12
      have hr2 := (hr1.below hb12).below hb
      obtain ⟨b, o, rfl, hbb, q1⟩ := hr2.getN hlt
      obtain ⟨q, hq⟩ : ∃ x, L.getD i 0 = x := ⟨_, rfl⟩
      rw [hq] at q1
      have hqg : L[i]? = some q := by
        rw [List.getElem?_eq_getElem (by rw [H.out.1]; exact hlt), ← hq, List.getD_eq_getElem?_getD, List.getElem?_eq_getElem (by rw [H.out.1]; exact hlt)]
        rfl
      have hrt := rroot_any q n (H.out.2.1 q (List.mem_of_getElem? hqg)) hn wr
      have hset := rep_set (f := fun p => Rs.root p n) hlt H.out.1 hqg
      have HR := Lib.hid (And.intro hrt (And.intro hset (And.intro ho (And.intro hb hln))))
      clear hrt hset ho hb hln hqg hq hr1 hb12 hr2
      go_wp2_with fail
      refine HR.out.1.mono ?_
      rintro e w3 ⟨rfl, hb3⟩
      have ho3 : OwnW w3 g wr.heap.size (.slice (some ⟨g, 0, none⟩) N N) (nl ((L.take i).map (fun p => Rs.root p n) ++ List.replicate (N - i) 0)) := OwnW.below HR.out.2.2.1 hb3 (Nat.le_refl _)
      obtain ⟨y, hy⟩ : ∃ y, (nl ((L.take i).map (fun p => Rs.root p n) ++ List.replicate (N - i) 0))[i]? = some y := ⟨_, List.getElem?_eq_getElem (by rw [HR.out.2.2.2.2]; exact hlt)⟩
      have q2 := ho3.cellAt hy
      have q3 := ho3.frozenAt HR.out.2.2.2.2 i
      have hst := ho3.stored HR.out.2.2.2.2 i ((Rs.root q n : Nat) : Int)
      rw [HR.out.2.1] at hst
      have hs3 := hb3.size
      have H3 := Lib.hid (And.intro hst (HR.out.2.2.2.1.trans (hb3.mono (by omega))))
      clear ho3 hy hst hb3
      go_wp2_with fail
      refine ⟨⟨i + 1, by omega, by simp, H3.out.1.mono (Nat.le_refl _) (by simp; omega), by simp; omega, ?_⟩, ?_⟩
      · exact H3.out.2.grown (grownBy_set w3 ⟨g, i, none⟩ _) (by omega) (fun k e => by cases e; exact Nat.le_refl _)
      · simp [intOf]; omega
    · have hltI : ¬ ((i : Int) < (N : Int)) := by omega
      obtain rfl : i = N := by omega
      have hbz := H2.out.1.trans (hb.mono (by omega))
      have HF := Lib.hid (And.intro ho hbz)
      clear ho hb hbz hln
      go_wp2_with fail
      go_ret
      refine retW ?_ HF.out.2
      have h1 := HF.out.1
      rw [List.take_of_length_le (Nat.le_of_eq H.out.1), Nat.sub_self, List.replicate_zero, List.append_nil] at h1
      rw [← List.map_take, H.out.2.2]
      exact h1.mono (by omega) (Nat.le_refl _)
end Go.Proofs.YtmpladnglfiejaaGreatDoor
end

section
/- The document's SHA-256: bytes brought to whole blocks. -/
namespace Go.Proofs.YtmpladnglfiejaaGreatDoor
open Go.RowKit
set_option maxRecDepth 100000
set_option linter.unusedVariables false
set_option linter.unusedSimpArgs false
set_option maxHeartbeats 4000000 in
theorem rpadded_any (A : Option Addr) (n c : Nat) (xs : List UInt8) (w : World) (h : Rd w w.heap.size A n c xs) (hn : n ≤ 1099511627 ) :
    Calls Tryz.prog 27 #[.slice A n c] w (RetOwn (xs ++ Sha.padOf n) w) := by
  have hl := h.len
  have H := Lib.hid (And.intro h hl)
  clear h hl
  go_enter Tryz.func27, Tryz.ntmps27
  go_wp2_with fail
  refine (copy_any A n c xs w H.out.1 (by omega)).mono ?_
  rintro e w1 ⟨A1, n1, c1, rfl, ho1, hb1⟩
  obtain ⟨_, _, _, e1, hr1⟩ := ho1.rd
  injection e1 with q1 q2 q3
  subst q1 q2 q3
  have hn1 : n1 = n := by have := hr1.len; have := H.out.2; omega
  subst hn1
  have H1 := Lib.hid (And.intro ho1 hb1)
  have hs1 := hb1.size
  clear ho1 hb1 hr1
  have hlit := OwnB.lit w1 [128] [.int .u8 128] 1 rfl rfl (by omega)
  go_wp2_with (first
    | (at_builtin
       refine wpList_app rfl (.tmp 8) (.tmp 9) rfl w.heap.size w1.heap.size (.slice A1 n1 c1) xs rfl (H1.out.1.alloc (Nat.le_refl _) _) ?_ (w1.alloc (.cells #[.int .u8 128] 5)).heap.size (some ⟨w1.heap.size, 0, none⟩) 1 1 [128] rfl ?_ ?_ ?_
       · simp; omega
       · exact reads_block w1 5 [.int .u8 128] _ rfl
       · have := H.out.2; omega
       intro v2 w2 ho2 hg2 hat2 hb2
       have H2 := Lib.hid (And.intro ho2 (H1.out.2.trans (((Below.refl _ _).alloc hs1 _).trans hb2)))
       clear ho2 hg2 hat2 hb2)
    | fail)
  obtain ⟨A2, n2, c2, rfl, hr2⟩ := H2.out.1.rd
  have hn2 : n2 = n1 + 1 := by have := hr2.len; rw [List.length_append, H.out.2] at this; exact this.symm
  clear hr2
  go_loopw [3] (fun s4 wr => ∃ (z cz m : Nat) (Az : Option Addr), m = n1 + (z + 1) ∧ s4 = .slice Az m cz ∧ z ≤ Sha.zerosOf n1 ∧ OwnB wr w.heap.size wr.heap.size (.slice Az m cz) (xs ++ (128 :: List.replicate z 0)) ∧ Below w.heap.size w wr) (fun s4 _ => n1 + 100 - slLen s4)
  case atStart => exact ⟨0, c2, n2, A2, hn2, rfl, Nat.zero_le _, H2.out.1, H2.out.2⟩
  case round =>
    obtain ⟨z, cz, m, Az, hm, rfl, hz, ho, hb⟩ := hrel
    clear hn2
    have hzb : Sha.zerosOf n1 < 64 := by unfold Sha.zerosOf; omega
    have hmod : Int.tmod (m : Int) 64 = ((m % 64 : Nat) : Int) := rfl
    obtain ⟨r, hr⟩ : ∃ r, m % 64 = r := ⟨_, rfl⟩
    rw [hr] at hmod
    have hml : m ≤ n1 + 64 := by omega
    by_cases h56 : r = 56
    · have hb56 : ((r : Int) != 56) = false := by simp; omega
      have hzz : z = Sha.zerosOf n1 := by
        unfold Sha.zerosOf at hz ⊢
        omega
      have j1 : IntKind.u64.wrap (n1 : Int) = (n1 : Int) := by rw [IntKind.wrap_u64]; omega
      have j2 : IntKind.u64.wrap (8 * (n1 : Int)) = 8 * (n1 : Int) := by rw [IntKind.wrap_u64]; omega
      have HZ := Lib.hid (And.intro ho (And.intro hb (And.intro hzz hm)))
      clear ho hb hzz hr h56 hz hzb hm
      go_wp2_with fail
      obtain ⟨V, rfl⟩ : ∃ V, V = wr := ⟨_, rfl⟩
      clear hmod hb56 j1 j2
      go_loopw [3, 5] (fun s4 ix wr => ∃ (i mz cz : Nat) (z : Int) (Az : Option Addr), i ≤ 8 ∧ z = 7 - (i : Int) ∧ ix = .int .i64 z ∧ mz ≤ n1 + 64 + i ∧ s4 = .slice Az mz cz ∧ OwnB wr w.heap.size wr.heap.size (.slice Az mz cz) (xs ++ ((128 :: List.replicate (Sha.zerosOf n1) 0) ++ (List.range i).map (Sha.lenByte n1))) ∧ Below w.heap.size w wr) (fun _ ix _ => (intOf ix + 1).toNat)
      case atStart => exact ⟨0, m, cz, 7, Az, by omega, by omega, rfl, by omega, rfl, by rw [List.range_zero, List.map_nil, List.append_nil, ← HZ.out.2.2.1]; exact HZ.out.1, HZ.out.2.1⟩
      case round =>
        obtain ⟨i, mz, cz, y, Az, hi, hy, rfl, hmz, rfl, ho, hb⟩ := hrel
        by_cases hil : i < 8
        · obtain ⟨q, hq⟩ : ∃ q : Nat, 7 - i = q := ⟨_, rfl⟩
          obtain rfl : y = (q : Int) := by omega
          obtain ⟨sh, hsh⟩ : ∃ k, 56 - 8 * i = k := ⟨_, rfl⟩
          have hshi : 8 * (q : Int) = (sh : Int) := by omega
          have hsh64 : sh ≤ 56 := by omega
          have j3 : IntKind.i64.wrap (sh : Int) = (sh : Int) := by rw [IntKind.wrap_i64]; omega
          have j4 : IntKind.u64.wrap (sh : Int) = (sh : Int) := by rw [IntKind.wrap_u64]; omega
          have j5 : IntKind.i64.wrap ((q : Int) - 1) = (q : Int) - 1 := by rw [IntKind.wrap_i64]; omega
          have hlb : bv (Sha.lenByte n1 i) = .int .u8 (8 * (n1 : Int) / 2 ^ sh % 256) := by
            unfold Sha.lenByte bv
            rw [hsh, UInt8.toNat_ofNat']
            congr 1
          have hrange : xs ++ ((128 :: List.replicate (Sha.zerosOf n1) 0) ++ (List.range (i + 1)).map (Sha.lenByte n1)) = (xs ++ ((128 :: List.replicate (Sha.zerosOf n1) 0) ++ (List.range i).map (Sha.lenByte n1))) ++ [Sha.lenByte n1 i] := by
            rw [List.range_succ, List.map_append, List.append_assoc, List.append_assoc]
            rfl
          have hlx : (xs ++ ((128 :: List.replicate (Sha.zerosOf n1) 0) ++ (List.range i).map (Sha.lenByte n1))).length = mz := by
            obtain ⟨_, _, _, e1, h1⟩ := ho.rd
            injection e1 with _ e2 _
            exact h1.len.trans e2.symm
          have HI := Lib.hid (And.intro ho (And.intro hb (And.intro hlb (And.intro hrange (And.intro hlx hy)))))
          have hsr := hb.size
          clear ho hb hlb hrange hsh hlx hy
          go_upto_region 9 with fail
          go_wp2_with (first
            | (at_builtin
               refine wpList_app rfl (.tmp 26) (.tmp 33) rfl w.heap.size wr.heap.size (.slice Az mz cz) (xs ++ ((128 :: List.replicate (Sha.zerosOf n1) 0) ++ (List.range i).map (Sha.lenByte n1))) rfl (HI.out.1.alloc (Nat.le_refl _) _) ?_ (wr.alloc (.cells #[.int .u8 (8 * (n1 : Int) / 2 ^ sh % 256)] 5)).heap.size (some ⟨wr.heap.size, 0, none⟩) 1 1 [Sha.lenByte n1 i] rfl ?_ ?_ ?_
               · simp; omega
               · have e := reads_block wr 5 [bv (Sha.lenByte n1 i)] _ rfl
                 rw [HI.out.2.2.1] at e
                 simp only [List.map_cons, List.map_nil, HI.out.2.2.1]
                 exact e
               · rw [HI.out.2.2.2.2.1]; omega
               intro v7 w7 ho7 hg7 hat7 hb7
               have HA := Lib.hid (And.intro ho7 hb7)
               clear ho7 hg7 hat7 hb7)
            | fail)
          obtain ⟨A7, n7, c7, e7, hr7⟩ := HA.out.1.rd
          subst e7
          have hn7 := hr7.len
          rw [List.length_append, HI.out.2.2.2.2.1] at hn7
          refine ⟨⟨i + 1, n7, c7, (q : Int) - 1, A7, by omega, by omega, by simp, by simp at hn7; omega, rfl, ?_, HI.out.2.1.trans (((Below.refl _ _).alloc HI.out.2.1.size _).trans HA.out.2)⟩, ?_⟩
          · rw [HI.out.2.2.2.1]
            exact HA.out.1
          · simp only [intOf]
            omega
        · have hi8 : i = 8 := by omega
          subst hi8
          obtain rfl : y = -1 := by omega
          have HF := Lib.hid (And.intro ho hb)
          clear ho hb hy
          go_wp2_with fail
          go_ret
          exact retOwn HF.out.1 HF.out.2
    · have hb56 : ((r : Int) != 56) = true := by simp; omega
      have hzz : z + 1 ≤ Sha.zerosOf n1 := by
        unfold Sha.zerosOf at hz ⊢
        omega
      have hrep : xs ++ (128 :: List.replicate (z + 1) 0) = (xs ++ (128 :: List.replicate z 0)) ++ [0] := by
        rw [List.replicate_succ', List.append_assoc, List.cons_append]
      have hlx : (xs ++ (128 :: List.replicate z (0 : UInt8))).length = m := by
        simp
        have := H.out.2
        omega
      have HZ := Lib.hid (And.intro ho (And.intro hb (And.intro hzz (And.intro hm (And.intro hrep hlx)))))
      have hsr := hb.size
      clear ho hb hzz hr h56 hz hm hrep hlx
      go_wp2_with (first
        | (at_builtin
           refine wpList_app rfl (.tmp 15) (.tmp 16) rfl w.heap.size wr.heap.size (.slice Az m cz) (xs ++ (128 :: List.replicate z 0)) rfl (HZ.out.1.alloc (Nat.le_refl _) _) ?_ (wr.alloc (.cells #[.int .u8 0] 5)).heap.size (some ⟨wr.heap.size, 0, none⟩) 1 1 [0] rfl ?_ ?_ ?_
           · simp; omega
           · exact reads_block wr 5 [.int .u8 0] _ rfl
           · rw [HZ.out.2.2.2.2.2]; omega
           intro v7 w7 ho7 hg7 hat7 hb7
           have HA := Lib.hid (And.intro ho7 hb7)
           clear ho7 hg7 hat7 hb7)
        | fail)
      obtain ⟨A7, n7, c7, e7, hr7⟩ := HA.out.1.rd
      subst e7
      have hn7 := hr7.len
      rw [List.length_append, HZ.out.2.2.2.2.2] at hn7
      have hn7' : n7 = m + 1 := by simpa using hn7.symm
      refine ⟨⟨z + 1, c7, n7, A7, by have := HZ.out.2.2.2.1; omega, rfl, HZ.out.2.2.1, ?_, HZ.out.2.1.trans (((Below.refl _ _).alloc HZ.out.2.1.size _).trans HA.out.2)⟩, ?_⟩
      · rw [HZ.out.2.2.2.2.1]
        exact HA.out.1
      · simp only [slLen]
        omega
end Go.Proofs.YtmpladnglfiejaaGreatDoor
end

section
/- The document's SHA-256: right, by each of its amounts. -/
namespace Go.Proofs.YtmpladnglfiejaaGreatDoor
open Go.RowKit
set_option maxRecDepth 100000
set_option linter.unusedVariables false
set_option linter.unusedSimpArgs false
theorem or_comm32 (a b : Int) : bits .or .u32 a b = bits .or .u32 b a := by
  simp [bits, BitVec.or_comm]
theorem rright2_any (x : Int) (w : World) : Calls Tryz.prog 49 #[.int .u32 x, .int .u64 2] w fun e w' => e = .returned (.int .u32 (Sha.rot x 1073741824 4)) ∧ w' = w := by
  rw [Sha.rot, or_comm32]
  go_enter Tryz.func49, Tryz.ntmps49
  go_wp2_with fail
  go_ret
  exact ⟨rfl, rfl⟩
theorem rright6_any (x : Int) (w : World) : Calls Tryz.prog 49 #[.int .u32 x, .int .u64 6] w fun e w' => e = .returned (.int .u32 (Sha.rot x 67108864 64)) ∧ w' = w := by
  rw [Sha.rot, or_comm32]
  go_enter Tryz.func49, Tryz.ntmps49
  go_wp2_with fail
  go_ret
  exact ⟨rfl, rfl⟩
theorem rright7_any (x : Int) (w : World) : Calls Tryz.prog 49 #[.int .u32 x, .int .u64 7] w fun e w' => e = .returned (.int .u32 (Sha.rot x 33554432 128)) ∧ w' = w := by
  rw [Sha.rot, or_comm32]
  go_enter Tryz.func49, Tryz.ntmps49
  go_wp2_with fail
  go_ret
  exact ⟨rfl, rfl⟩
theorem rright11_any (x : Int) (w : World) : Calls Tryz.prog 49 #[.int .u32 x, .int .u64 11] w fun e w' => e = .returned (.int .u32 (Sha.rot x 2097152 2048)) ∧ w' = w := by
  rw [Sha.rot, or_comm32]
  go_enter Tryz.func49, Tryz.ntmps49
  go_wp2_with fail
  go_ret
  exact ⟨rfl, rfl⟩
theorem rright13_any (x : Int) (w : World) : Calls Tryz.prog 49 #[.int .u32 x, .int .u64 13] w fun e w' => e = .returned (.int .u32 (Sha.rot x 524288 8192)) ∧ w' = w := by
  rw [Sha.rot, or_comm32]
  go_enter Tryz.func49, Tryz.ntmps49
  go_wp2_with fail
  go_ret
  exact ⟨rfl, rfl⟩
theorem rright17_any (x : Int) (w : World) : Calls Tryz.prog 49 #[.int .u32 x, .int .u64 17] w fun e w' => e = .returned (.int .u32 (Sha.rot x 32768 131072)) ∧ w' = w := by
  rw [Sha.rot, or_comm32]
  go_enter Tryz.func49, Tryz.ntmps49
  go_wp2_with fail
  go_ret
  exact ⟨rfl, rfl⟩
theorem rright18_any (x : Int) (w : World) : Calls Tryz.prog 49 #[.int .u32 x, .int .u64 18] w fun e w' => e = .returned (.int .u32 (Sha.rot x 16384 262144)) ∧ w' = w := by
  rw [Sha.rot, or_comm32]
  go_enter Tryz.func49, Tryz.ntmps49
  go_wp2_with fail
  go_ret
  exact ⟨rfl, rfl⟩
theorem rright19_any (x : Int) (w : World) : Calls Tryz.prog 49 #[.int .u32 x, .int .u64 19] w fun e w' => e = .returned (.int .u32 (Sha.rot x 8192 524288)) ∧ w' = w := by
  rw [Sha.rot, or_comm32]
  go_enter Tryz.func49, Tryz.ntmps49
  go_wp2_with fail
  go_ret
  exact ⟨rfl, rfl⟩
theorem rright22_any (x : Int) (w : World) : Calls Tryz.prog 49 #[.int .u32 x, .int .u64 22] w fun e w' => e = .returned (.int .u32 (Sha.rot x 1024 4194304)) ∧ w' = w := by
  rw [Sha.rot, or_comm32]
  go_enter Tryz.func49, Tryz.ntmps49
  go_wp2_with fail
  go_ret
  exact ⟨rfl, rfl⟩
theorem rright25_any (x : Int) (w : World) : Calls Tryz.prog 49 #[.int .u32 x, .int .u64 25] w fun e w' => e = .returned (.int .u32 (Sha.rot x 128 33554432)) ∧ w' = w := by
  rw [Sha.rot, or_comm32]
  go_enter Tryz.func49, Tryz.ntmps49
  go_wp2_with fail
  go_ret
  exact ⟨rfl, rfl⟩
end Go.Proofs.YtmpladnglfiejaaGreatDoor
end
