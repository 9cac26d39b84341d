/- Joined of: Mem Num Base Mem2 Lit Open. -/
import Derived.WalkKit
import Derived.Deep.Draws
import Derived.Lib.Hide
import Derived.Deep.AppendLies
import Derived.Maps.AppendAt
import Derived.RegionTactic
import Derived.OwnWalk
import Derived.Laws.OwnMore
import Derived.Laws.BitsAllLaws
import Derived.Laws.BitsLemmas
import Derived.Test.YtmpladnglfiejaaGreatDoorProg
import Derived.BigQuiet
import Derived.Deep.QuietTactic
import Derived.Laws.BytesArg
import Derived.KernelRfl
import Derived.WalkLawsBesides
import Derived.WalkSpells
import Derived.ProofKit
import Derived.OpenShut
section
/- Words for byte slices in memory, used by all the texts of this seat. Plain lemmas over any program; no condition. -/
namespace Go.Proofs.YtmpladnglfiejaaGreatDoor
open Go.RowKit

theorem block_of_add (a : Addr) (n : Nat) : (a.add n).block = a.block := by unfold Addr.add; split <;> rfl
theorem add_of_add (a : Addr) (i j : Nat) : (a.add i).add j = a.add (i + j) := by
  unfold Addr.add
  by_cases hi : i = 0 <;> by_cases hj : j = 0 <;> simp [hi, hj, Nat.add_assoc]

def Reads (w : World) (B size : Nat) (A : Option Addr) (n : Nat) (xs : List Value) : Prop :=
  xs.length = n * size ∧ (0 < n → ∃ ad, A = some ad ∧ ad.block < B ∧ ∀ j u, xs[j]? = some u → w.cell? (ad.add j) = some u)

section
variable {w w' : World} {B B' size n : Nat} {A : Option Addr} {xs : List Value}
theorem Reads.none_ : Reads w B size A 0 [] := ⟨by simp, fun h => absurd h (by omega)⟩
theorem Reads.at_ {k : Nat} (h : Reads w B 1 A n xs) (hk : k < n) : ∃ ad u, A = some ad ∧ ad.block < B ∧ xs[k]? = some u ∧ w.cell? (ad.add k) = some u := by
  obtain ⟨ad, e, hb, hc⟩ := h.2 (by omega)
  have hl : k < xs.length := by have := h.1; omega
  exact ⟨ad, xs[k], e, hb, List.getElem?_eq_getElem hl, hc k _ (List.getElem?_eq_getElem hl)⟩
theorem Reads.keep (h : Reads w B size A n xs) (hk : ∀ p : Addr, p.block < B → w'.cell? p = w.cell? p) : Reads w' B size A n xs :=
  ⟨h.1, fun hn => by
    obtain ⟨ad, e, hb, hc⟩ := h.2 hn
    exact ⟨ad, e, hb, fun j u hu => (hk _ (by rw [block_of_add]; exact hb)).trans (hc j u hu)⟩⟩
theorem Reads.more (h : Reads w B size A n xs) (hB : B ≤ B') : Reads w B' size A n xs :=
  ⟨h.1, fun hn => by
    obtain ⟨ad, e, hb, hc⟩ := h.2 hn
    exact ⟨ad, e, by omega, hc⟩⟩
theorem Reads.below (h : Reads w B size A n xs) (hb : Below B w w') : Reads w' B size A n xs := h.keep fun _ hp => hb.cell hp
theorem Reads.drew (h : Reads w B size A n xs) : Reads w.drew B size A n xs := h
theorem Reads.drewN (h : Reads w B size A n xs) (k : Nat) : Reads (w.drewN k) B size A n xs := h
theorem Reads.alloc (h : Reads w B size A n xs) (hB : B ≤ w.heap.size) (o : Obj) : Reads (w.alloc o) B size A n xs := h.keep fun p hp => World.cell?_alloc_lt w o p (by omega)
theorem Reads.setCell (h : Reads w B size A n xs) {p : Addr} (hB : B ≤ p.block) (u : Value) : Reads (w.setCell p u) B size A n xs :=
  h.keep fun q hq => World.cell?_setCell_other w p q u (fun e => by subst e; omega)
theorem Reads.grown (h : Reads w B size A n xs) {row : Option Nat} (hg : w.grownBy w' row) (hB : B ≤ w.heap.size) (hr : ∀ g, row = some g → B ≤ g) : Reads w' B size A n xs :=
  h.keep fun p hp => World.cell?_of_block (hg.block p.block (by omega) (fun e => by have := hr _ e.symm; omega))
theorem Reads.cut (h : Reads w B size A n xs) {k cap : Nat} (hk : k ≤ n) (hc : n ≤ cap) :
    Reads w B size (if cap = k then A else A.map (·.add (k * size))) (n - k) (xs.drop (k * size)) := by
  refine ⟨by rw [List.length_drop, h.1, Nat.sub_mul], fun hn => ?_⟩
  obtain ⟨ad, rfl, hb, hcell⟩ := h.2 (by omega)
  rw [if_neg (by omega)]
  refine ⟨ad.add (k * size), rfl, by rw [block_of_add]; exact hb, fun j u hu => ?_⟩
  rw [add_of_add]
  exact hcell _ u (by rw [← hu, List.getElem?_drop])
theorem Reads.of_own {base : Nat} {e : TypeId} {c : Nat} (h : w.ownsRow base e size (.slice A n c) n xs) : Reads w w.heap.size size A n xs := by
  refine ⟨h.1, fun hn => ?_⟩
  obtain ⟨g, cap, hv, _, hlt⟩ := h.form hn
  have hA : A = some ⟨g, 0, none⟩ := by injection hv
  subst hA
  exact ⟨_, rfl, hlt, h.cells (g := g) rfl⟩
end

/-- A byte as a cell. -/
def bv (x : UInt8) : Value := .int .u8 (x.toNat : Int)

theorem bv_one (xs : List UInt8) : ∀ u ∈ xs.map bv, u.oneCell' = true := by
  intro u hu
  obtain ⟨_, _, rfl⟩ := List.mem_map.1 hu
  rfl

/-- The slice '.slice A n c' reads as the bytes xs, which lie below block B. -/
structure Rd (w : World) (B : Nat) (A : Option Addr) (n c : Nat) (xs : List UInt8) : Prop where
  len : xs.length = n
  cap : n ≤ c
  capm : c ≤ 9223372036854775807
  nil : A = none → c = 0
  spot : 0 < c → ∃ b o, A = some ⟨b, o, none⟩ ∧ b < B
  rds : Reads w B 1 A n (xs.map bv)

def RdV (w : World) (B : Nat) (v : Value) (xs : List UInt8) : Prop := ∃ A n c, v = .slice A n c ∧ Rd w B A n c xs

section
variable {w w' : World} {B B' n c : Nat} {A : Option Addr} {xs : List UInt8} {v : Value}

theorem Rd.keep (h : Rd w B A n c xs) (hk : ∀ p : Addr, p.block < B → w'.cell? p = w.cell? p) : Rd w' B A n c xs := ⟨h.len, h.cap, h.capm, h.nil, h.spot, h.rds.keep hk⟩
theorem Rd.more (h : Rd w B A n c xs) (hB : B ≤ B') : Rd w B' A n c xs :=
  ⟨h.len, h.cap, h.capm, h.nil, fun hc => by obtain ⟨b, o, e, hb⟩ := h.spot hc; exact ⟨b, o, e, by omega⟩, h.rds.more hB⟩
theorem Rd.below (h : Rd w B A n c xs) (hb : Below B w w') : Rd w' B A n c xs := h.keep fun _ hp => hb.cell hp
theorem Rd.drew (h : Rd w B A n c xs) : Rd w.drew B A n c xs := h.keep fun _ _ => rfl
theorem Rd.drewN (h : Rd w B A n c xs) (k : Nat) : Rd (w.drewN k) B A n c xs := h.keep fun _ _ => rfl
theorem Rd.alloc (h : Rd w B A n c xs) (hB : B ≤ w.heap.size) (o : Obj) : Rd (w.alloc o) B A n c xs := h.keep fun p hp => World.cell?_alloc_lt w o p (by omega)
theorem Rd.setCell (h : Rd w B A n c xs) {p : Addr} (hB : B ≤ p.block) (u : Value) : Rd (w.setCell p u) B A n c xs :=
  h.keep fun q hq => World.cell?_setCell_other w p q u (fun e => by subst e; omega)
theorem Rd.grown (h : Rd w B A n c xs) {row : Option Nat} (hg : w.grownBy w' row) (hB : B ≤ w.heap.size) (hr : ∀ g, row = some g → B ≤ g) : Rd w' B A n c xs :=
  h.keep fun p hp => World.cell?_of_block (hg.block p.block (by omega) (fun e => by have := hr _ e.symm; omega))
/-- What reads in w reads in a world that has kept all of w. -/
theorem Rd.up (h : Rd w w.heap.size A n c xs) (hb : Below w.heap.size w w') : Rd w' w'.heap.size A n c xs := (h.below hb).more hb.size
theorem Rd.none_ : Rd w B none 0 0 [] := ⟨rfl, Nat.le_refl _, by omega, fun _ => rfl, fun h => absurd h (by omega), Reads.none_⟩

/-- The bytes of a slice that has some lie at a plain address. -/
theorem Rd.at_ (h : Rd w B A n c xs) (hn : 0 < n) : ∃ b o, A = some ⟨b, o, none⟩ ∧ b < B ∧ ∀ j x, xs[j]? = some x → w.cell? ⟨b, o + j, none⟩ = some (.int .u8 (x.toNat : Int)) := by
  have hc := h.cap
  obtain ⟨b, o, rfl, hb⟩ := h.spot (by omega)
  obtain ⟨ad, e, _, hcell⟩ := h.rds.2 hn
  injection e with e
  subst e
  refine ⟨b, o, rfl, hb, fun j x hx => ?_⟩
  have := hcell j (bv x) (by simp [hx])
  rw [Addr.add_lit] at this
  exact this
/-- One byte. -/
theorem Rd.get {b o : Nat} (h : Rd w B (some ⟨b, o, none⟩) n c xs) {k : Nat} (hk : k < n) : ∃ x, xs[k]? = some x ∧ w.cell? ⟨b, o + k, none⟩ = some (.int .u8 (x.toNat : Int)) := by
  obtain ⟨b', o', e, _, hc⟩ := h.at_ (by omega)
  injection e with e
  injection e with e1 e2
  subst e1 e2
  have hl : k < xs.length := by have := h.len; omega
  exact ⟨xs[k], List.getElem?_eq_getElem hl, hc k _ (List.getElem?_eq_getElem hl)⟩

/-- 'v[lo:hi]', as the model spells it. -/
theorem Rd.cut (h : Rd w B A n c xs) {lo hi : Nat} (h1 : lo ≤ hi) (h2 : hi ≤ n) : Rd w B (if c = lo then A else A.map (·.add lo)) (hi - lo) (c - lo) ((xs.take hi).drop lo) := by
  have hc := h.cap
  have hl := h.len
  have hm := h.capm
  refine ⟨by simp; omega, by omega, by omega, fun hA => ?_, fun h0 => ?_, ?_⟩
  · by_cases e : c = lo
    · omega
    · rw [if_neg e] at hA
      have := h.nil (by cases A <;> simp_all)
      omega
  · obtain ⟨b, o, rfl, hb⟩ := h.spot (by omega)
    rw [if_neg (by omega)]
    exact ⟨b, o + lo, by simp [Addr.add_lit], hb⟩
  · refine ⟨by simp; omega, fun h0 => ?_⟩
    obtain ⟨b, o, rfl, hb, hcell⟩ := h.at_ (by omega)
    rw [if_neg (by omega)]
    refine ⟨⟨b, o + lo, none⟩, by simp [Addr.add_lit], hb, fun j u hu => ?_⟩
    rw [Addr.add_lit]
    simp only [List.map_drop, List.map_take, List.getElem?_drop, List.getElem?_take, List.getElem?_map] at hu
    split at hu
    · cases hx : xs[lo + j]? with
      | none => simp [hx] at hu
      | some x =>
        simp [hx] at hu
        subst hu
        have := hcell (lo + j) x hx
        rw [← Nat.add_assoc] at this
        exact this
    · cases hu

theorem RdV.mk (h : Rd w B A n c xs) : RdV w B (.slice A n c) xs := ⟨A, n, c, rfl, h⟩
theorem RdV.keep (h : RdV w B v xs) (hk : ∀ p : Addr, p.block < B → w'.cell? p = w.cell? p) : RdV w' B v xs := by obtain ⟨A, n, c, e, h⟩ := h; exact ⟨A, n, c, e, h.keep hk⟩
theorem RdV.more (h : RdV w B v xs) (hB : B ≤ B') : RdV w B' v xs := by obtain ⟨A, n, c, e, h⟩ := h; exact ⟨A, n, c, e, h.more hB⟩
theorem RdV.below (h : RdV w B v xs) (hb : Below B w w') : RdV w' B v xs := h.keep fun _ hp => hb.cell hp
end

section
variable {P : Program} (w : World)

theorem run_append_of_nil (base : Nat) (t ty e : TypeId) (i : TypeInfo) (size : Nat) (ht : P.underlying t = some (.slice e)) (hi : P.info? e = some i)
    (v : Value) (n : Nat) (xs : List Value) (hown : w.ownsRow base e size v n xs) (c : Nat) : (Builtin.append_ #[t, t] ty #[v, .slice none 0 c]).run P w = .ok v w := by
  rcases hown.2 with ⟨rfl, rfl⟩ | ⟨g, cap, cur, rfl, _, _, hnc, _⟩
  · simp [Builtin.append_, run_underlying ht, sizeOf, typeInfo, hi, Builtin.lenOf, Builtin.firstCells]
  · simp [Builtin.append_, run_underlying ht, sizeOf, typeInfo, hi, Builtin.lenOf, Builtin.firstCells, hnc, storeCells]

theorem run_append_any (base : Nat) (t ty e : TypeId) (i : TypeInfo) (z : Value) (size bytes : Nat) (ht : P.underlying t = some (.slice e)) (hi : P.info? e = some i) (hz : i.zero = some z)
    (hsize : i.size = size) (hby : i.bytes = bytes) (hzs : z.cells.size = size) (hsz : 0 < size)
    (v : Value) (n : Nat) (xs : List Value) (hown : w.ownsRow base e size v n xs)
    (B : Nat) (A : Option Addr) (m c : Nat) (news : List Value) (hr : Reads w B size A m news) (h1 : ∀ u ∈ news, u.oneCell' = true)
    (h63 : n + m ≤ maxLen) (hbytes : (n + m) * bytes ≤ 140737488355328) (hbase : base ≤ w.heap.size) :
    ∃ v' w', (Builtin.append_ #[t, t] ty #[v, .slice A m c]).run P w = .ok v' w' ∧ w'.ownsRow base e size v' (n + m) (xs ++ news) ∧ w.grownBy w' v.ownBlock ∧
      (v'.ownBlock = v.ownBlock ∨ v'.ownBlock = some w.heap.size) := by
  rcases A with _ | ad
  · have hm : m = 0 := by
      rcases Nat.eq_zero_or_pos m with h0 | h0
      · exact h0
      · obtain ⟨ad, h, _⟩ := hr.2 h0
        cases h
    subst hm
    have hn : news = [] := List.eq_nil_of_length_eq_zero (by simpa using hr.1)
    subst hn
    exact ⟨v, w, run_append_of_nil w base t ty e i size ht hi v n xs hown c, by simpa using hown, World.grownBy.refl w _, .inl rfl⟩
  · have hcells : ∀ j u, news[j]? = some u → w.cell? (ad.add j) = some u := by
      intro j u hu
      rcases Nat.eq_zero_or_pos m with h0 | h0
      · subst h0
        have hn : news = [] := List.eq_nil_of_length_eq_zero (by simpa using hr.1)
        subst hn
        simp at hu
      · obtain ⟨ad', h, _, hc⟩ := hr.2 h0
        injection h with h
        subst h
        exact hc j u hu
    obtain ⟨v', w', hrun, h2, h3, _, h5⟩ := run_append_own_at (P := P) w base t ty e i z size bytes ht hi hz hsize hby hzs hsz v n xs hown ad m c news hr.1 hcells h1 h63 hbytes hbase
    exact ⟨v', w', hrun, h2, h3, h5⟩

theorem wp_append_any {o : Oper} {a : Act} {K : Act → World → Prop} {Q : Exit → Act → World → Prop} (s x : Operand) (t : TypeId)
    (ho : o.op = .call { callee := .builtin .append, args := #[s, x], argTypes := #[t, t] })
    (base : Nat) (e : TypeId) (i : TypeInfo) (z : Value) (size bytes : Nat) (ht : P.underlying t = some (.slice e)) (hi : P.info? e = some i) (hz : i.zero = some z)
    (hsize : i.size = size) (hby : i.bytes = bytes) (hzs : z.cells.size = size) (hsz : 0 < size)
    (v : Value) (n : Nat) (xs : List Value) (hs : a.eval s = v) (hown : w.ownsRow base e size v n xs)
    (B : Nat) (A : Option Addr) (m c : Nat) (news : List Value) (hx : a.eval x = .slice A m c) (hr : Reads w B size A m news) (h1 : ∀ u ∈ news, u.oneCell' = true)
    (h63 : n + m ≤ maxLen) (hbytes : (n + m) * bytes ≤ 140737488355328) (hbase : base ≤ w.heap.size)
    (h : ∀ v' w', w'.ownsRow base e size v' (n + m) (xs ++ news) → w.grownBy w' v.ownBlock → (v'.ownBlock = v.ownBlock ∨ v'.ownBlock = some w.heap.size) → K (a.put o.dst v') w') : o.wp P a w K Q := by
  obtain ⟨v', w', hrun, h2, h3, h4⟩ := run_append_any (P := P) w base t o.type e i z size bytes ht hi hz hsize hby hzs hsz v n xs hown B A m c news hr h1 h63 hbytes hbase
  unfold Oper.wp execOp
  simp only [ho, resolve, invoke, builtin, Sem.run_bind, Sem.run_pure, Result.andThen_ok, List.map_toArray, List.map_cons, List.map_nil, hs, hx, hrun]
  exact h v' w' h2 h3 h4

theorem wpList_append_any {ops : Array Oper} {rest : List Oper} {o : Oper} {a : Act} {Q : Exit → Act → World → Prop} (hgd : o.guard = none) (s x : Operand) (t : TypeId)
    (ho : o.op = .call { callee := .builtin .append, args := #[s, x], argTypes := #[t, t] })
    (base : Nat) (e : TypeId) (i : TypeInfo) (z : Value) (size bytes : Nat) (ht : P.underlying t = some (.slice e)) (hi : P.info? e = some i) (hz : i.zero = some z)
    (hsize : i.size = size) (hby : i.bytes = bytes) (hzs : z.cells.size = size) (hsz : 0 < size)
    (v : Value) (n : Nat) (xs : List Value) (hs : a.eval s = v) (hown : w.ownsRow base e size v n xs)
    (B : Nat) (A : Option Addr) (m c : Nat) (news : List Value) (hx : a.eval x = .slice A m c) (hr : Reads w B size A m news) (h1 : ∀ u ∈ news, u.oneCell' = true)
    (h63 : n + m ≤ maxLen) (hbytes : (n + m) * bytes ≤ 140737488355328) (hbase : base ≤ w.heap.size)
    (h : ∀ v' w', w'.ownsRow base e size v' (n + m) (xs ++ news) → w.grownBy w' v.ownBlock → (v'.ownBlock = v.ownBlock ∨ v'.ownBlock = some w.heap.size) → wpList P ops Q rest (a.put o.dst v') w') : wpList P ops Q (o :: rest) a w :=
  wpList_plain hgd fun _ hK => wp_append_any w s x t ho base e i z size bytes ht hi hz hsize hby hzs hsz v n xs hs hown B A m c news hx hr h1 h63 hbytes hbase fun v' w' h2 h3 h4 => hK _ _ (h v' w' h2 h3 h4)

theorem step_append_any {ops : Array Oper} {o : Oper} {a : Act} {K : Act → World → Prop} {Q : Exit → Act → World → Prop} {E : Prop} (hgd : o.guard = none) (s x : Operand) (t : TypeId)
    (ho : o.op = .call { callee := .builtin .append, args := #[s, x], argTypes := #[t, t] })
    (base : Nat) (e : TypeId) (i : TypeInfo) (z : Value) (size bytes : Nat) (ht : P.underlying t = some (.slice e)) (hi : P.info? e = some i) (hz : i.zero = some z)
    (hsize : i.size = size) (hby : i.bytes = bytes) (hzs : z.cells.size = size) (hsz : 0 < size)
    (v : Value) (n : Nat) (xs : List Value) (hs : a.eval s = v) (hown : w.ownsRow base e size v n xs)
    (B : Nat) (A : Option Addr) (m c : Nat) (news : List Value) (hx : a.eval x = .slice A m c) (hr : Reads w B size A m news) (h1 : ∀ u ∈ news, u.oneCell' = true)
    (h63 : n + m ≤ maxLen) (hbytes : (n + m) * bytes ≤ 140737488355328) (hbase : base ≤ w.heap.size)
    (h : ∀ v' w', w'.ownsRow base e size v' (n + m) (xs ++ news) → w.grownBy w' v.ownBlock → (v'.ownBlock = v.ownBlock ∨ v'.ownBlock = some w.heap.size) → K (a.put o.dst v') w') :
    if Region.wanted o (yielded ops a.tmps) = true then Oper.wp P o a w K Q else E := by
  have hw : Region.wanted o (yielded ops a.tmps) = true := by simp [Region.wanted, hgd]
  rw [if_pos hw]
  exact wp_append_any w s x t ho base e i z size bytes ht hi hz hsize hby hzs hsz v n xs hs hown B A m c news hx hr h1 h63 hbytes hbase h
end


/-- The one-element slice that an append of a literal lays. -/
theorem Reads.one (w : World) (t : TypeId) (u : Value) : Reads (w.alloc (.cells #[u] t)) (w.heap.size + 1) 1 (some ⟨w.heap.size, 0, none⟩) 1 [u] := by
  refine ⟨rfl, fun _ => ⟨_, rfl, by simp, fun j x hx => ?_⟩⟩
  rw [Addr.add_lit]
  have hj : j = 0 := by
    have := (List.getElem?_eq_some_iff.1 hx).1
    simp at this; omega
  subst hj
  simp at hx
  subst hx
  rw [World.cell?_alloc_at _ _ _ _ rfl]
  rfl
theorem below_drewN {B : Nat} {a w : World} (h : Below B a w) (n : Nat) : Below B a (w.drewN n) := ⟨h.os, h.tape, h.output, h.size, h.block⟩
/-! ### Rows of the call's own -/
/-- v is nil, or starts at the head of a block in [lo, hi) that is known whole; its elements are the bytes xs. -/
def OwnB (w : World) (lo hi : Nat) (v : Value) (xs : List UInt8) : Prop :=
  w.ownsRow lo 5 1 v xs.length (xs.map bv) ∧ ∀ k, v.ownBlock = some k → k < hi

section
variable {w w' : World} {lo hi lo' hi' B : Nat} {v : Value} {xs : List UInt8}

theorem OwnB.of {n : Nat} (h : w.ownsRow lo 5 1 v n (xs.map bv)) : OwnB w lo w.heap.size v xs := by
  have hn : n = xs.length := by have := h.1; simp at this; omega
  subst hn
  exact ⟨h, fun k hk => (h.lt k hk).2⟩
theorem OwnB.nil_ : OwnB w lo hi (.slice none 0 0) [] := ⟨World.ownsRow_nil _ _ _ _, fun k hk => by simp [Value.ownBlock] at hk⟩
theorem OwnB.mono (h : OwnB w lo hi v xs) (h1 : lo' ≤ lo) (h2 : hi ≤ hi') : OwnB w lo' hi' v xs := by
  refine ⟨⟨h.1.1, ?_⟩, fun k hk => Nat.lt_of_lt_of_le (h.2 k hk) h2⟩
  rcases h.1.2 with e | ⟨g, cap, cur, e, hb, r⟩
  · exact .inl e
  · exact .inr ⟨g, cap, cur, e, by omega, r⟩
theorem OwnB.keep (h : OwnB w lo hi v xs) (hk : ∀ k, lo ≤ k → k < hi → w'.heap[k]? = w.heap[k]?) : OwnB w' lo hi v xs := by
  refine ⟨⟨h.1.1, ?_⟩, h.2⟩
  rcases h.1.2 with e | ⟨g, cap, cur, rfl, hb, hg, r⟩
  · exact .inl e
  · exact .inr ⟨g, cap, cur, rfl, hb, (hk g hb (h.2 g rfl)).trans hg, r⟩
theorem OwnB.below (h : OwnB w lo hi v xs) (hb : Below B w w') (hB : hi ≤ B) : OwnB w' lo hi v xs := h.keep fun k _ hk => hb.block k (by omega)
theorem OwnB.drewN (h : OwnB w lo hi v xs) (n : Nat) : OwnB (w.drewN n) lo hi v xs := h.keep fun _ _ _ => rfl
theorem OwnB.alloc (h : OwnB w lo hi v xs) (hB : hi ≤ w.heap.size) (o : Obj) : OwnB (w.alloc o) lo hi v xs := h.keep fun k _ hk => Below.heap_alloc w o k (by omega)
theorem OwnB.setCell (h : OwnB w lo hi v xs) {p : Addr} (hp : p.block < lo ∨ hi ≤ p.block) (u : Value) : OwnB (w.setCell p u) lo hi v xs := h.keep fun k h1 hk => Below.heap_setCell w p u k (by omega)
/-- What is owned can be read. -/
theorem OwnB.rd (h : OwnB w lo hi v xs) : RdV w hi v xs := by
  rcases h.1.2 with ⟨rfl, hn⟩ | ⟨g, cap, cur, rfl, hb, hg, hnc, hcm, hcs, htake⟩
  · have : xs = [] := List.eq_nil_of_length_eq_zero hn
    subst this
    exact RdV.mk Rd.none_
  · have hlt := h.2 g rfl
    refine RdV.mk ⟨rfl, hnc, by simpa [maxLen] using hcm, (fun e => by cases e), fun _ => ⟨g, 0, rfl, hlt⟩, by simp, fun _ => ⟨_, rfl, hlt, fun j u hu => ?_⟩⟩
    exact h.1.cells (g := g) rfl j u hu
end

/-! ### Blocks that are known whole -/
def Blk (w : World) (g : Nat) (t : TypeId) (cs : Array Value) : Prop := w.heap[g]? = some (.cells cs t (0, 0))

section
variable {w w' : World} {g : Nat} {t : TypeId} {cs : Array Value}
theorem Blk.lt (h : Blk w g t cs) : g < w.heap.size := by
  rcases Nat.lt_or_ge g w.heap.size with hlt | hge
  · exact hlt
  · unfold Blk at h; rw [Array.getElem?_eq_none hge] at h; cases h
theorem Blk.cell (h : Blk w g t cs) (i : Nat) : w.cell? ⟨g, i, none⟩ = cs[i]? := cell_of_row w g i cs t (0, 0) h
theorem Blk.frozen (h : Blk w g t cs) (i : Nat) : w.frozen? ⟨g, i, none⟩ = false := by
  unfold Blk at h
  simp [World.frozen?, h]
theorem Blk.new (w : World) (t : TypeId) (cs : Array Value) : Blk (w.alloc (.cells cs t)) w.heap.size t cs := heap_alloc_new w _
theorem Blk.drew (h : Blk w g t cs) : Blk w.drew g t cs := h
theorem Blk.drewN (h : Blk w g t cs) (n : Nat) : Blk (w.drewN n) g t cs := h
theorem Blk.alloc (h : Blk w g t cs) (o : Obj) : Blk (w.alloc o) g t cs := (Below.heap_alloc w o g h.lt).trans h
theorem Blk.set_ (h : Blk w g t cs) (i : Nat) (u : Value) : Blk (w.setCell ⟨g, i, none⟩ u) g t (cs.setIfInBounds i u) := by
  unfold Blk at h ⊢
  simp [World.setCell, Array.getElem?_modify, h]
theorem Blk.far (h : Blk w g t cs) {p : Addr} (hp : g ≠ p.block) (u : Value) : Blk (w.setCell p u) g t cs := (Below.heap_setCell w p u g hp).trans h
theorem Blk.below {B : Nat} (h : Blk w g t cs) (hb : Below B w w') (hg : g < B) : Blk w' g t cs := (hb.block g hg).trans h
theorem Blk.grown {row : Option Nat} (h : Blk w g t cs) (hb : w.grownBy w' row) (hg : some g ≠ row) : Blk w' g t cs := (hb.block g h.lt hg).trans h
theorem Blk.ne_ {g' : Nat} {t' : TypeId} {cs' : Array Value} (h : Blk w g t cs) (h' : Blk w g' t' cs') (hne : t ≠ t') : g ≠ g' := by
  rintro rfl
  unfold Blk at h h'
  rw [h] at h'
  injection h' with h'
  injection h' with _ ht
  exact hne ht
end

/-- A block of the call's own behind a callee that keeps what was there: its cells, none frozen. -/
theorem Blk.box {B : Nat} {w w' : World} {g : Nat} {t : TypeId} {cs : Array Value} (h : Blk w g t cs) (hb : Below B w w') (hg : g < B) :
    (∀ o, w'.cell? ⟨g, o, none⟩ = cs[o]?) ∧ (∀ o, w'.frozen? ⟨g, o, none⟩ = false) ∧ Blk w' g t cs ∧ g < w'.heap.size := by
  have h' := h.below hb hg
  exact ⟨h'.cell, h'.frozen, h', h'.lt⟩
theorem Blk.facts {w : World} {g : Nat} {t : TypeId} {cs : Array Value} (h : Blk w g t cs) : (∀ o, w.cell? ⟨g, o, none⟩ = cs[o]?) ∧ (∀ o, w.frozen? ⟨g, o, none⟩ = false) := ⟨h.cell, h.frozen⟩

/-! ### Several rows of the call's own, one behind the other -/
def Owns (w : World) : Nat → Nat → List (Value × List UInt8) → Prop
  | lo, hi, [] => lo ≤ hi
  | lo, hi, (v, xs) :: r => ∃ mid, lo ≤ mid ∧ OwnB w lo mid v xs ∧ Owns w mid hi r

section
variable {w w' : World} {B : Nat}
theorem Owns.le : ∀ {l : List (Value × List UInt8)} {lo hi : Nat}, Owns w lo hi l → lo ≤ hi
  | [], _, _, h => h
  | (_, _) :: _, _, _, ⟨_, h1, _, h2⟩ => Nat.le_trans h1 (Owns.le h2)
theorem Owns.keep : ∀ {l : List (Value × List UInt8)} {lo hi : Nat}, Owns w lo hi l → (∀ k, lo ≤ k → k < hi → w'.heap[k]? = w.heap[k]?) → Owns w' lo hi l
  | [], _, _, h, _ => h
  | (_, _) :: _, _, _, ⟨mid, h1, h2, h3⟩, hk =>
    ⟨mid, h1, h2.keep fun k a b => hk k a (Nat.lt_of_lt_of_le b (Owns.le h3)), Owns.keep h3 fun k a b => hk k (Nat.le_trans h1 a) b⟩
theorem Owns.below {l : List (Value × List UInt8)} {lo hi : Nat} (h : Owns w lo hi l) (hb : Below B w w') (hB : hi ≤ B) : Owns w' lo hi l := h.keep fun k _ hk => hb.block k (by omega)
theorem Owns.alloc {l : List (Value × List UInt8)} {lo hi : Nat} (h : Owns w lo hi l) (hB : hi ≤ w.heap.size) (o : Obj) : Owns (w.alloc o) lo hi l := h.keep fun k _ hk => Below.heap_alloc w o k (by omega)
theorem Owns.setCell {l : List (Value × List UInt8)} {lo hi : Nat} (h : Owns w lo hi l) {p : Addr} (hp : p.block < lo ∨ hi ≤ p.block) (u : Value) : Owns (w.setCell p u) lo hi l := h.keep fun k h1 hk => Below.heap_setCell w p u k (by omega)
theorem Owns.mono : ∀ {l : List (Value × List UInt8)} {lo lo' hi hi' : Nat}, Owns w lo hi l → lo' ≤ lo → hi ≤ hi' → Owns w lo' hi' l
  | [], _, _, _, _, h, h1, h2 => by have h' : _ ≤ _ := h; exact Nat.le_trans h1 (Nat.le_trans h' h2)
  | (_, _) :: _, _, _, _, _, ⟨mid, h1, h2, h3⟩, h4, h5 => ⟨mid, Nat.le_trans h4 h1, h2.mono h4 (Nat.le_refl _), Owns.mono h3 (Nat.le_refl _) h5⟩
theorem Owns.one {lo hi : Nat} {v : Value} {xs : List UInt8} (h : OwnB w lo hi v xs) (hl : lo ≤ hi) : Owns w lo hi [(v, xs)] := ⟨hi, hl, h, Nat.le_refl _⟩
theorem Owns.append : ∀ {l l' : List (Value × List UInt8)} {lo mid hi : Nat}, Owns w lo mid l → Owns w mid hi l' → Owns w lo hi (l ++ l')
  | [], _, _, _, _, h, h' => h'.mono h (Nat.le_refl _)
  | (_, _) :: _, _, _, _, _, ⟨m, h1, h2, h3⟩, h' => ⟨m, h1, h2, Owns.append h3 h'⟩
/-- Each can be read. -/
theorem Owns.rd : ∀ {l : List (Value × List UInt8)} {lo hi : Nat}, Owns w lo hi l → ∀ {v : Value} {xs : List UInt8}, (v, xs) ∈ l → OwnB w lo hi v xs
  | (_, _) :: _, _, _, ⟨mid, h1, h2, h3⟩, v, xs, hm => by
    rcases List.mem_cons.1 hm with e | hm
    · injection e with e1 e2
      subst e1 e2
      exact h2.mono (Nat.le_refl _) (Owns.le h3)
    · exact (Owns.rd h3 hm).mono h1 (Nat.le_refl _)
end
end Go.Proofs.YtmpladnglfiejaaGreatDoor
end

section
/- Plain lemmas on numbers, bits and lists. -/
namespace Go.Proofs.YtmpladnglfiejaaGreatDoor
open Go.RowKit

theorem ofInt_i64 (a : Nat) (ha : a < 9223372036854775808) : (BitVec.ofInt 64 (a : Int)).toNat = a := by
  rw [BitVec.ofInt_natCast, BitVec.toNat_ofNat]; exact Nat.mod_eq_of_lt (by omega)
theorem i64_and_nat (a b : Nat) (ha : a < 9223372036854775808) (hb : b < 9223372036854775808) : bits .and .i64 (a : Int) (b : Int) = ((a &&& b : Nat) : Int) := by
  have hx : a &&& b < 2 ^ 63 := Nat.and_lt_two_pow _ (by omega)
  show IntKind.i64.wrap ((BitVec.ofInt 64 (a : Int) &&& BitVec.ofInt 64 (b : Int)).toNat : Int) = _
  rw [BitVec.toNat_and, ofInt_i64 a ha, ofInt_i64 b hb, IntKind.wrap_i64]
  omega
theorem i64_or_nat (a b : Nat) (ha : a < 9223372036854775808) (hb : b < 9223372036854775808) : bits .or .i64 (a : Int) (b : Int) = ((a ||| b : Nat) : Int) := by
  have hx : a ||| b < 2 ^ 63 := Nat.or_lt_two_pow (by omega) (by omega)
  show IntKind.i64.wrap ((BitVec.ofInt 64 (a : Int) ||| BitVec.ofInt 64 (b : Int)).toNat : Int) = _
  rw [BitVec.toNat_or, ofInt_i64 a ha, ofInt_i64 b hb, IntKind.wrap_i64]
  omega
/-- 'n<<8 | c'. -/
theorem i64_or8 (a x : Nat) (ha : a < 36028797018963968) (hx : x < 256) : bits .or .i64 ((a : Int) * 256) (x : Int) = ((a * 256 + x : Nat) : Int) := by
  rw [show (a : Int) * 256 = ((a * 256 : Nat) : Int) from by omega, i64_or_nat _ _ (by omega) (by omega)]
  congr 1
  rw [Nat.mul_comm, show 256 = 2 ^ 8 from rfl, ← Nat.two_pow_add_eq_or_of_lt (by omega)]
theorem and127 (x : UInt8) : bits .and .u8 (x.toNat : Int) 127 = ((x.toNat % 128 : Nat) : Int) := by
  rw [show (127 : Int) = ((127 : Nat) : Int) from rfl, u8_and_nat _ _ x.toNat_lt (by omega)]
  rw [show (127 : Nat) = 2 ^ 7 - 1 from rfl, Nat.and_two_pow_sub_one_eq_mod]
theorem ofInt_u64 (a : Nat) (ha : a < 18446744073709551616) : (BitVec.ofInt 64 (a : Int)).toNat = a := by
  rw [BitVec.ofInt_natCast, BitVec.toNat_ofNat]; exact Nat.mod_eq_of_lt (by omega)
theorem u64_or_nat (a b : Nat) (ha : a < 18446744073709551616) (hb : b < 18446744073709551616) : bits .or .u64 (a : Int) (b : Int) = ((a ||| b : Nat) : Int) := by
  have hx : a ||| b < 2 ^ 64 := Nat.or_lt_two_pow (by omega) (by omega)
  show IntKind.u64.wrap ((BitVec.ofInt 64 (a : Int) ||| BitVec.ofInt 64 (b : Int)).toNat : Int) = _
  rw [BitVec.toNat_or, ofInt_u64 a ha, ofInt_u64 b hb]
  simp only [IntKind.wrap, IntKind.bits, IntKind.signed]
  simp
  omega
/-- 'n<<7 | c' on numbers without a sign. -/
theorem u64_or7 (a x : Nat) (ha : a < 144115188075855872) (hx : x < 128) : bits .or .u64 ((a : Int) * 128) (x : Int) = ((a * 128 + x : Nat) : Int) := by
  rw [show (a : Int) * 128 = ((a * 128 : Nat) : Int) from by omega, u64_or_nat _ _ (by omega) (by omega)]
  congr 1
  rw [Nat.mul_comm, show 128 = 2 ^ 7 from rfl, ← Nat.two_pow_add_eq_or_of_lt (by omega)]
theorem and31 (x : UInt8) : bits .and .u8 (x.toNat : Int) 31 = ((x.toNat % 32 : Nat) : Int) := by
  rw [show (31 : Int) = ((31 : Nat) : Int) from rfl, u8_and_nat _ _ x.toNat_lt (by omega)]
  rw [show (31 : Nat) = 2 ^ 5 - 1 from rfl, Nat.and_two_pow_sub_one_eq_mod]

theorem take_snoc {α : Type} {l : List α} {k : Nat} {x : α} (h : l[k]? = some x) : l.take (k + 1) = l.take k ++ [x] := by
  rw [List.take_add_one, h]; rfl
theorem get_take_drop {α : Type} {l : List α} {a m k : Nat} {x : α} (hk : k < m) (h : l[a + k]? = some x) : ((l.drop a).take m)[k]? = some x := by
  rw [List.getElem?_take, if_pos hk, List.getElem?_drop, h]
end Go.Proofs.YtmpladnglfiejaaGreatDoor
end

section
/- The contracts of copies and comparisons of byte slices: CopyBytes, EqBytes, slices.Clone, Roomy, Kept. -/
namespace Go.Proofs.YtmpladnglfiejaaGreatDoor
open Go.RowKit
set_option maxRecDepth 100000

theorem u8_info : (Tryz.prog.info? 5).map (fun i => (i.zero, i.size, i.bytes)) = some (some (.int .u8 0), 1, 1) := by kernel_rfl

/-- append of bytes onto a row of the call's own. -/
theorem wpList_app {w : World} {ops : Array Oper} {rest : List Oper} {o : Oper} {a : Act} {Q : Exit → Act → World → Prop} (hgd : o.guard = none) (s x : Operand)
    (ho : o.op = .call { callee := .builtin .append, args := #[s, x], argTypes := #[22, 22] })
    (lo hi : Nat) (v : Value) (xs : List UInt8) (hs : a.eval s = v) (hown : OwnB w lo hi v xs) (hlo : lo ≤ w.heap.size)
    (B : Nat) (A : Option Addr) (m c : Nat) (news : List UInt8) (hx : a.eval x = .slice A m c) (hr : Reads w B 1 A m (news.map bv)) (hlen : xs.length + m ≤ 35184372088832)
    (h : ∀ v' w', OwnB w' lo w'.heap.size v' (xs ++ news) → w.grownBy w' v.ownBlock → (v'.ownBlock = v.ownBlock ∨ v'.ownBlock = some w.heap.size) → Below lo w w' → wpList Tryz.prog ops Q rest (a.put o.dst v') w') :
    wpList Tryz.prog ops Q (o :: rest) a w := by
  obtain ⟨i0, hi0, hz0, hz1, hz2⟩ := info_parts u8_info
  have hm : news.length = m := by have := hr.1; simp at this; omega
  refine wpList_append_any w hgd s x 22 ho lo 5 i0 _ 1 1 Tryz.underlying22 hi0 hz0 hz1 hz2 rfl (by omega) v xs.length (xs.map bv) hs hown.1 B A m c (news.map bv) hx hr (bv_one news) (by simp only [maxLen]; omega) (by omega) hlo ?_
  intro v' w' h1 h2 h3
  exact h v' w' (OwnB.of (by rw [List.map_append]; exact h1)) h2 h3 ((Below.refl _ _).grown h2 hlo fun k hk => (hown.1.lt k hk).1)

/-- A new row with the bytes xs; what was there is as it was. -/
def RetOwn (xs : List UInt8) (w : World) (e : Ending) (w' : World) : Prop :=
  ∃ A n c, e = .returned (.slice A n c) ∧ OwnB w' w.heap.size w'.heap.size (.slice A n c) xs ∧ Below w.heap.size w w'
theorem retOwn {xs : List UInt8} {w w' : World} {v : Value} (h : OwnB w' w.heap.size w'.heap.size v xs) (hb : Below w.heap.size w w') : RetOwn xs w (.returned v) w' := by
  obtain ⟨A, n, c, rfl, _⟩ := h.rd
  exact ⟨A, n, c, rfl, h, hb⟩

theorem copy_any (A : Option Addr) (n c : Nat) (xs : List UInt8) (w : World) (h : Rd w w.heap.size A n c xs) (hn : n ≤ 1099511627776) :
    Calls Tryz.prog 17 #[.slice A n c] w (RetOwn xs w) := by
  obtain ⟨i0, hi0, hz0, hz1, hz2⟩ := info_parts u8_info
  have hr := h.rds
  have hl := h.len
  go_enter Tryz.func17, Tryz.ntmps17
  go_wp2_with
    (at_builtin
     refine wpList_append_any _ rfl (.tmp 4) (.tmp 5) _ rfl w.heap.size 5 i0 _ 1 1 Tryz.underlying22 hi0 hz0 hz1 hz2 rfl (by omega) (.slice none 0 0) 0 [] rfl
         ⟨by simp, .inl ⟨rfl, rfl⟩⟩ w.heap.size A n c (xs.map bv) rfl hr (bv_one xs) (by simp only [maxLen]; omega) (by omega) (Nat.le_refl _) ?_
     intro v1 w1 hown1 hg1 hat1
     have hbw1 : Below w.heap.size w w1 := (Below.refl _ _).grown hg1 (Nat.le_refl _) (by simp [Value.ownBlock]))
  go_ret
  exact retOwn (OwnB.of (by simpa using hown1)) hbw1

theorem clone_nil (n c : Nat) (w : World) (hn : n = 0) :
    Calls Tryz.prog 35 #[.slice none n c] w (RetOwn [] w) := by
  subst hn
  have hnil := fun W => Lib.run_eql_slice_nil (P := Tryz.prog) W 22 5 none 0 c 0 0 Tryz.underlying22
  go_enter Tryz.func35, Tryz.ntmps35
  go_wp2
  go_ret
  exact retOwn OwnB.nil_ (Below.refl _ _)

theorem clone_any (A : Option Addr) (n c : Nat) (xs : List UInt8) (w : World) (h : Rd w w.heap.size A n c xs) (hn : n ≤ 1099511627776) :
    Calls Tryz.prog 35 #[.slice A n c] w (RetOwn xs w) := by
  obtain ⟨i0, hi0, hz0, hz1, hz2⟩ := info_parts u8_info
  have hl := h.len
  rcases A with _ | ad
  · have hc := h.cap
    have := h.nil rfl
    obtain rfl : xs = [] := List.eq_nil_of_length_eq_zero (by omega)
    exact clone_nil n c w (by omega)
  have hnil := fun W => Lib.run_eql_slice_nil (P := Tryz.prog) W 22 5 (some ad) n c 0 0 Tryz.underlying22
  have hr := (h.alloc (Nat.le_refl _) (.cells #[] 5)).rds
  have hz := World.ownsRow_made (e := 5) (size := 1) w #[] 0 (base := w.heap.size) (Nat.le_refl _) (by simp) (by simp)
  go_enter Tryz.func35, Tryz.ntmps35
  go_wp2_with
    (at_builtin
     refine wpList_append_any _ rfl (.tmp 5) (.tmp 6) _ rfl w.heap.size 5 i0 _ 1 1 Tryz.underlying22 hi0 hz0 hz1 hz2 rfl (by omega) (.slice (some ⟨w.heap.size, 0, none⟩) 0 0) 0 [] rfl
         hz w.heap.size (some ad) n c (xs.map bv) rfl hr (bv_one xs) (by simp only [maxLen]; omega) (by omega) (by simp) ?_
     intro v1 w1 hown1 hg1 hat1
     have hbw1 : Below w.heap.size w w1 := ((Below.refl _ _).alloc (Nat.le_refl _) _).grown hg1 (by simp) (by simp [Value.ownBlock]))
  go_ret
  exact retOwn (OwnB.of (by simpa using hown1)) hbw1

/-! ### v[lo:hi], v[lo:], v[:hi]: the address under one name -/
theorem run_cut {w : World} {B n c : Nat} {A : Option Addr} {xs : List UInt8} (h : Rd w B A n c xs) (lo hi : Nat) (l r : Int) (hl : l = lo) (hr : r = hi) (h1 : lo ≤ hi) (h2 : hi ≤ n) :
    ∃ A1, Rd w B A1 (hi - lo) (c - lo) ((xs.take hi).drop lo) ∧ (∀ W, (Instr.sliceAt 22 (.slice A n c) (some (.int .i64 l)) (some (.int .i64 r)) none).run Tryz.prog W = .ok (.slice A1 (hi - lo) (c - lo)) W) ∧
      ∀ W, (Instr.slice 22 (.slice A n c) (some (.int .i64 l)) (some (.int .i64 r)) none).run Tryz.prog W = .ok (.slice A1 (hi - lo) (c - lo)) W := by
  have hc := h.cap
  refine ⟨_, h.cut h1 h2, fun W => ?_, fun W => ?_⟩ <;> subst hl hr <;> simp [go_sem, Tryz.underlying22, show (lo : Int) ≤ hi by omega, show (hi : Int) ≤ c by omega]
theorem run_cut_lo {w : World} {B n c : Nat} {A : Option Addr} {xs : List UInt8} (h : Rd w B A n c xs) (lo : Nat) (l : Int) (hl : l = lo) (h1 : lo ≤ n) :
    ∃ A1, Rd w B A1 (n - lo) (c - lo) (xs.drop lo) ∧ (∀ W, (Instr.sliceAt 22 (.slice A n c) (some (.int .i64 l)) none none).run Tryz.prog W = .ok (.slice A1 (n - lo) (c - lo)) W) ∧
      ∀ W, (Instr.slice 22 (.slice A n c) (some (.int .i64 l)) none none).run Tryz.prog W = .ok (.slice A1 (n - lo) (c - lo)) W := by
  have hc := h.cap
  have hx := h.cut h1 (Nat.le_refl n)
  rw [List.take_of_length_le (by have := h.len; omega)] at hx
  refine ⟨_, hx, fun W => ?_, fun W => ?_⟩ <;> subst hl <;> simp [go_sem, Tryz.underlying22, show (lo : Int) ≤ n by omega]
theorem Rd.upto {w : World} {B n c : Nat} {A : Option Addr} {xs : List UInt8} (h : Rd w B A n c xs) (hi : Nat) (h2 : hi ≤ n) :
    Rd w B A hi c (xs.take hi) := by
  have hc := h.cap
  have hx := h.cut (Nat.zero_le hi) h2
  rw [List.drop_zero] at hx
  by_cases e : c = 0
  · subst e; simpa using hx
  · rw [if_neg e] at hx
    have : A.map (·.add 0) = A := by cases A <;> simp [Addr.add]
    rw [this] at hx
    simpa using hx

/-! ### string(b) -/
theorem map_bv (xs : List UInt8) : xs.map bv = (xs.map fun x => (x.toNat : Int)).map (Value.int .u8) := by simp [bv]
theorem strOf (xs : List UInt8) : strOfNums (xs.map fun x => (x.toNat : Int)) = ⟨xs.toArray⟩ := by
  simp [strOfNums, Function.comp_def]
theorem run_string {w : World} {B n c : Nat} {A : Option Addr} {xs : List UInt8} (h : Rd w B A n c xs) :
    ∀ dst, Tryz.prog.underlying dst = some .string → (convert 22 dst (.slice A n c)).run Tryz.prog w = .ok (.string ⟨xs.toArray⟩) w := by
  intro dst hd
  have hl := h.len
  rcases Nat.eq_zero_or_pos n with h0 | h0
  · subst h0
    obtain rfl : xs = [] := List.eq_nil_of_length_eq_zero hl
    rcases A with _ | ⟨b, o, s⟩
    · exact run_convert_bytes_nil w 22 5 Tryz.underlying22 Tryz.underlying5 0 c dst hd
    · rw [run_convert_bytes_string w 22 dst 5 _ 0 c Tryz.underlying22 Tryz.underlying5 hd, run_bytesToString w _ 0 c [] (by simp [loadCells, loadCellsFrom])]
      rfl
  · obtain ⟨b, o, rfl, _, hc⟩ := h.at_ h0
    rw [run_convert_bytes_arg w 22 5 Tryz.underlying22 Tryz.underlying5 b o n c (xs.map fun x => (x.toNat : Int)) (by simpa using hl) (fun i hi => by
      have hx : xs[i]? = some (xs[i]'(by omega)) := List.getElem?_eq_getElem (by omega)
      rw [hc i _ hx]; simp [hx]) dst hd, strOf]

/-- The same bytes? -/
def eqB (xs ys : List UInt8) : Bool := xs == ys

theorem eqbytes_any (A A' : Option Addr) (n c n' c' : Nat) (xs ys : List UInt8) (B B' : Nat) (w : World) (h : Rd w B A n c xs) (h' : Rd w B' A' n' c' ys) :
    Calls Tryz.prog 13 #[.slice A n c, .slice A' n' c'] w fun e w' => e = .returned (.bool (eqB xs ys)) ∧ w' = w := by
  have k1 := run_string h 9 Tryz.underlying9
  have k2 := run_string h' 9 Tryz.underlying9
  clear h h'
  go_enter Tryz.func13, Tryz.ntmps13
  go_wp2
  go_ret
  exact ⟨rfl, rfl⟩

/-! ### Roomy, Kept -/
/-- The seven marks behind Roomy's bytes. -/
def marks (k : Nat) : List UInt8 := (List.range k).map fun i => UInt8.ofNat (201 + i)
theorem marks_succ (k : Nat) : marks (k + 1) = marks k ++ [UInt8.ofNat (201 + k)] := by simp [marks, List.range_succ]
theorem marks_len (k : Nat) : (marks k).length = k := by simp [marks]

/-- v reads as xs; it is a row of the call's own, in which the seven marks stand behind xs. -/
def RoomB (w : World) (lo hi : Nat) (v : Value) (xs : List UInt8) : Prop :=
  ∃ g cap, v = .slice (some ⟨g, 0, none⟩) xs.length cap ∧ OwnB w lo hi (.slice (some ⟨g, 0, none⟩) (xs.length + 7) cap) (xs ++ marks 7)

theorem room_mk {w : World} {lo hi n g cap : Nat} {v : Value} {xs : List UInt8} (hl : xs.length = n) (hv : v = .slice (some ⟨g, 0, none⟩) n cap)
    (h : OwnB w lo hi (.slice (some ⟨g, 0, none⟩) (n + 7) cap) (xs ++ marks 7)) : RoomB w lo hi v xs := by
  subst hl hv
  exact ⟨g, cap, rfl, h⟩
theorem RoomB.keep {w w' : World} {lo hi : Nat} {v : Value} {xs : List UInt8} (h : RoomB w lo hi v xs) (hk : ∀ k, lo ≤ k → k < hi → w'.heap[k]? = w.heap[k]?) : RoomB w' lo hi v xs := by
  obtain ⟨g, cap, e, h⟩ := h
  exact ⟨g, cap, e, h.keep hk⟩
theorem RoomB.below {w w' : World} {lo hi B : Nat} {v : Value} {xs : List UInt8} (h : RoomB w lo hi v xs) (hb : Below B w w') (hB : hi ≤ B) : RoomB w' lo hi v xs := h.keep fun k _ hk => hb.block k (by omega)
/-- A row is a row of its first elements too. -/
theorem RoomB.own {w : World} {lo hi : Nat} {v : Value} {xs : List UInt8} (h : RoomB w lo hi v xs) : OwnB w lo hi v xs := by
  obtain ⟨g, cap, rfl, h⟩ := h
  refine ⟨⟨by simp, ?_⟩, h.2⟩
  rcases h.1.2 with ⟨e, _⟩ | ⟨g', cap', cur, e, hb, hg, hnc, hcm, hcs, ht⟩
  · cases e
  · simp only [Value.slice.injEq, Option.some.injEq, Addr.mk.injEq] at e
    obtain ⟨⟨rfl, _, _⟩, _, rfl⟩ := e
    refine .inr ⟨g, cap, cur, rfl, hb, hg, by rw [List.length_append, marks_len] at hnc; omega, hcm, hcs, ?_⟩
    have := congrArg (List.take xs.length) ht
    simpa [List.take_take] using this

def RoomRel (xs : List UInt8) (w : World) (k : Nat) (v : Value) (wr : World) : Prop := OwnB wr w.heap.size wr.heap.size v (xs ++ marks k) ∧ Below w.heap.size w wr

set_option maxHeartbeats 400000 in
theorem roomy_any (A : Option Addr) (n c : Nat) (xs : List UInt8) (w : World) (h : Rd w w.heap.size A n c xs) (hn : n ≤ 1099511627000) :
    Calls Tryz.prog 6 #[.slice A n c] w fun e w' => ∃ v, e = .returned v ∧ RoomB w' w.heap.size w'.heap.size v xs ∧ Below w.heap.size w w' := by
  obtain ⟨i0, hi0, hz0, hz1, hz2⟩ := info_parts u8_info
  have hl := h.len
  go_enter Tryz.func6, Tryz.ntmps6
  go_wp2_with fail
  refine (copy_any A n c xs w h (by omega)).mono ?_
  rintro e w1 ⟨A1, n1, c1, rfl, ho1, hb1⟩
  have hrel0 : RoomRel xs w 0 (.slice A1 n1 c1) w1 := ⟨by simpa [marks] using ho1, hb1⟩
  clear ho1 hb1 h
  go_wp2
  go_loopw [3, 4] (fun v i wr => ∃ k : Nat, k ≤ 7 ∧ i = .int .i64 k ∧ RoomRel xs w k v wr) (fun _ i _ => 7 - (intOf i).toNat)
  case atStart => exact ⟨0, by omega, rfl, hrel0⟩
  case round =>
    obtain ⟨k, hk, rfl, hr⟩ := hrel
    by_cases hlt : k < 7
    · have hlt' : (k : Int) < 7 := by omega
      obtain ⟨ho, hb⟩ := hr
      have hlm := marks_len k
      have hbs := hb.size
      have e1 : (Value.int .u8 (201 + (k : Int))) = bv (UInt8.ofNat (201 + k)) := by
        simp only [bv, UInt8.toNat_ofNat']
        rw [Nat.mod_eq_of_lt (by omega)]
        rfl
      have hone : Hid (Reads (wr.alloc (.cells #[.int .u8 (201 + (k : Int))] 5)) (wr.heap.size + 1) 1 (some ⟨wr.heap.size, 0, none⟩) 1 ([UInt8.ofNat (201 + k)].map bv)) := by
        rw [e1]; exact Reads.one wr 5 _
      clear e1
      have HO := Lib.hid ho
      clear ho
      go_wp2_with
        (at_builtin
         refine wpList_app rfl (.tmp 11) (.tmp 15) rfl w.heap.size wr.heap.size _ (xs ++ marks k) rfl (HO.out.alloc (Nat.le_refl _) _) (by simp; omega) _ _ 1 1 [UInt8.ofNat (201 + k)] rfl hone.out (by simp; omega) ?_
         intro v2 w2 ho2 hg2 hat2 hb2)
      go_roundw
      case rel => exact ⟨k + 1, by omega, by go_num, by rw [marks_succ, ← List.append_assoc]; exact ho2, (hb.alloc (by omega) _).trans hb2⟩
      case measure => simp [intOf]; omega
    · obtain rfl : k = 7 := by omega
      obtain ⟨ho, hb⟩ := hr
      have hlm := marks_len 7
      have hx7 : (xs ++ marks 7).length = xs.length + 7 := by simp [hlm]
      obtain ⟨g, cap, hv, hg1, hg2⟩ := ho.1.form (by omega)
      rw [hx7, hl] at hv
      subst hv
      obtain ⟨A', n', c', e', hr'⟩ := ho.rd
      injection e' with ea en ec
      subst ea en ec
      have hc1 := hr'.cap
      have hc2 := hr'.capm
      have HR := Lib.hid ho
      clear hx7 ho hr' hlm
      go_wp2
      go_ret
      exact ⟨_, rfl, room_mk hl rfl HR.out, hb⟩

theorem eqB_self (xs : List UInt8) : eqB xs xs = true := by simp [eqB]
theorem mark_at (xs : List UInt8) {n k : Nat} (hl : xs.length = n) (hk : k < 7) : (xs ++ marks 7)[n + k]? = some (UInt8.ofNat (201 + k)) := by
  subst hl
  rw [List.getElem?_append_right (by omega), Nat.add_sub_cancel_left]
  simp [marks, hk]
theorem mark_bv {k : Nat} (hk : k < 7) : bv (UInt8.ofNat (201 + k)) = Value.int .u8 (201 + (k : Int)) := by
  simp only [bv, UInt8.toNat_ofNat']
  rw [Nat.mod_eq_of_lt (by omega)]
  rfl

theorem kept_any (lo hi : Nat) (v : Value) (A' : Option Addr) (n c' : Nat) (xs : List UInt8) (B : Nat) (w : World) (h : RoomB w lo hi v xs) (h' : Rd w B A' n c' xs) (hn : n ≤ 1099511627000) :
    Calls Tryz.prog 12 #[v, .slice A' n c'] w fun e w' => e = .returned (.bool true) ∧ w' = w := by
  obtain ⟨A, n', c, e, hr⟩ := h.own.rd
  obtain ⟨g, cap, e', ho⟩ := h
  subst e
  have hl := h'.len
  rw [hl] at e' ho
  injection e' with ea en ec
  subst ea en ec
  obtain ⟨A2, n2, c2, e2, hr2⟩ := ho.rd
  injection e2 with ea en ec
  subst ea en ec
  have hE := eqbytes_any (some ⟨g, 0, none⟩) A' n' c n' c' xs xs hi B w hr h'
  rw [eqB_self] at hE
  have HE := Lib.hid hE
  have hc1 := hr2.cap
  have hc2 := hr2.capm
  have hcell : ∀ k, k < 7 → w.cell? ⟨g, n' + k, none⟩ = some (.int .u8 (201 + (k : Int))) := by
    intro k hk
    obtain ⟨x, hx, hc⟩ := hr2.get (k := n' + k) (by omega)
    rw [mark_at xs hl hk] at hx
    injection hx with hx
    subst hx
    have := mark_bv hk
    simp only [bv] at this
    rw [this, Nat.zero_add] at hc
    exact hc
  have HC := Lib.hid hcell
  clear hE hcell hr hr2 ho h' hl
  go_enter Tryz.func12, Tryz.ntmps12
  go_wp2_with fail
  refine HE.out.mono ?_
  rintro e w' ⟨rfl, rfl⟩
  go_wp2
  go_loop [6] (fun i => ∃ k : Nat, k ≤ 7 ∧ i = .int .i64 k) (fun i => 7 - (intOf i).toNat)
  case atStart => exact ⟨0, by omega, rfl⟩
  case round =>
    obtain ⟨k, hk, rfl⟩ := hrel
    by_cases hlt : k < 7
    · have hlt' : (k : Int) < 7 := by omega
      have hck := HC.out k hlt
      go_wp2
      go_round
      case rel => exact ⟨k + 1, by omega, by go_num⟩
      case measure => simp [intOf]; omega
    · have hge : ¬ (k : Int) < 7 := by omega
      go_wp2
      go_ret
      exact ⟨rfl, rfl⟩
end Go.Proofs.YtmpladnglfiejaaGreatDoor
end

section
/- Words for slices whose elements are any cells: rows of the call's own, append onto them; slices of slices of bytes. Plain lemmas over any program; no condition. -/
namespace Go.Proofs.YtmpladnglfiejaaGreatDoor
open Go.RowKit

/-- v is nil, or starts at the head of a block in [lo, hi) that is known whole; its n elements of 'size' cells each are the cells cs. -/
def OwnC (e : TypeId) (size : Nat) (w : World) (lo hi : Nat) (v : Value) (n : Nat) (cs : List Value) : Prop :=
  w.ownsRow lo e size v n cs ∧ ∀ k, v.ownBlock = some k → k < hi

section
variable {e : TypeId} {size n : Nat} {w w' : World} {lo hi lo' hi' B : Nat} {v : Value} {cs : List Value}
theorem OwnC.of (h : w.ownsRow lo e size v n cs) : OwnC e size w lo w.heap.size v n cs := ⟨h, fun k hk => (h.lt k hk).2⟩
theorem OwnC.nil_ : OwnC e size w lo hi (.slice none 0 0) 0 [] := ⟨World.ownsRow_nil _ _ _ _, fun k hk => by simp [Value.ownBlock] at hk⟩
theorem OwnC.mono (h : OwnC e size w lo hi v n cs) (h1 : lo' ≤ lo) (h2 : hi ≤ hi') : OwnC e size w lo' hi' v n cs := by
  refine ⟨⟨h.1.1, ?_⟩, fun k hk => Nat.lt_of_lt_of_le (h.2 k hk) h2⟩
  rcases h.1.2 with e | ⟨g, cap, cur, e, hb, r⟩
  · exact .inl e
  · exact .inr ⟨g, cap, cur, e, by omega, r⟩
theorem OwnC.keep (h : OwnC e size w lo hi v n cs) (hk : ∀ k, lo ≤ k → k < hi → w'.heap[k]? = w.heap[k]?) : OwnC e size w' lo hi v n cs := by
  refine ⟨⟨h.1.1, ?_⟩, h.2⟩
  rcases h.1.2 with e | ⟨g, cap, cur, rfl, hb, hg, r⟩
  · exact .inl e
  · exact .inr ⟨g, cap, cur, rfl, hb, (hk g hb (h.2 g rfl)).trans hg, r⟩
theorem OwnC.below (h : OwnC e size w lo hi v n cs) (hb : Below B w w') (hB : hi ≤ B) : OwnC e size w' lo hi v n cs := h.keep fun k _ hk => hb.block k (by omega)
theorem OwnC.alloc (h : OwnC e size w lo hi v n cs) (hB : hi ≤ w.heap.size) (o : Obj) : OwnC e size (w.alloc o) lo hi v n cs := h.keep fun k _ hk => Below.heap_alloc w o k (by omega)
theorem OwnC.setCell (h : OwnC e size w lo hi v n cs) {p : Addr} (hp : p.block < lo ∨ hi ≤ p.block) (u : Value) : OwnC e size (w.setCell p u) lo hi v n cs := h.keep fun k h1 hk => Below.heap_setCell w p u k (by omega)
theorem OwnC.shape (h : OwnC e size w lo hi v n cs) : ∃ A c, v = .slice A n c ∧ n ≤ c ∧ c ≤ 9223372036854775807 ∧ (A = none → c = 0) ∧ Reads w hi size A n cs := by
  rcases h.1.2 with ⟨rfl, rfl⟩ | ⟨g, cap, cur, rfl, hb, hg, hnc, hcm, hcs, htake⟩
  · exact ⟨none, 0, rfl, Nat.le_refl _, by omega, fun _ => rfl, h.1.1, fun h => absurd h (by omega)⟩
  · exact ⟨_, cap, rfl, hnc, by simpa [maxLen] using hcm, (fun e => by cases e), h.1.1, fun _ => ⟨_, rfl, h.2 g rfl, fun j u hu => h.1.cells (g := g) rfl j u hu⟩⟩
end

/-- append onto a row of the call's own. -/
theorem wpList_appC {P : Program} {w : World} {ops : Array Oper} {rest : List Oper} {o : Oper} {a : Act} {Q : Exit → Act → World → Prop} (hgd : o.guard = none) (s x : Operand) (t : TypeId)
    (ho : o.op = .call { callee := .builtin .append, args := #[s, x], argTypes := #[t, t] })
    (e : TypeId) (z : Value) (size bytes : Nat) (hinfo : (P.info? e).map (fun i => (i.zero, i.size, i.bytes)) = some (some z, size, bytes)) (ht : P.underlying t = some (.slice e)) (hzs : z.cells.size = size) (hsz : 0 < size)
    (lo hi : Nat) (v : Value) (n : Nat) (xs : List Value) (hs : a.eval s = v) (hown : OwnC e size w lo hi v n xs) (hlo : lo ≤ w.heap.size)
    (B : Nat) (A : Option Addr) (m c : Nat) (news : List Value) (hx : a.eval x = .slice A m c) (hr : Reads w B size A m news) (h1 : ∀ u ∈ news, u.oneCell' = true) (h63 : n + m ≤ 9223372036854775807) (hlen : (n + m) * bytes ≤ 140737488355328)
    (h : ∀ v' w', OwnC e size w' lo w'.heap.size v' (n + m) (xs ++ news) → w.grownBy w' v.ownBlock → (v'.ownBlock = v.ownBlock ∨ v'.ownBlock = some w.heap.size) → Below lo w w' → wpList P ops Q rest (a.put o.dst v') w') :
    wpList P ops Q (o :: rest) a w := by
  obtain ⟨i0, hi0, hz0, hz1, hz2⟩ := info_parts hinfo
  refine wpList_append_any w hgd s x t ho lo e i0 z size bytes ht hi0 hz0 hz1 hz2 hzs hsz v n xs hs hown.1 B A m c news hx hr h1 (by simp only [maxLen]; omega) hlen hlo ?_
  intro v' w' g1 g2 g3
  exact h v' w' (OwnC.of g1) g2 g3 ((Below.refl _ _).grown g2 hlo fun k hk => (hown.1.lt k hk).1)

/-- A builtin append whose run is known. -/
theorem wpList_append_run {P : Program} {w w' : World} {ops : Array Oper} {rest : List Oper} {o : Oper} {a : Act} {Q : Exit → Act → World → Prop} (hgd : o.guard = none) (s x : Operand) (t t' : TypeId)
    (ho : o.op = .call { callee := .builtin .append, args := #[s, x], argTypes := #[t, t'] }) (v u r : Value) (hs : a.eval s = v) (hx : a.eval x = u)
    (hrun : (Builtin.append_ #[t, t'] o.type #[v, u]).run P w = .ok r w') (h : wpList P ops Q rest (a.put o.dst r) w') : wpList P ops Q (o :: rest) a w :=
  wpList_plain hgd fun _ hK => by
    unfold Oper.wp execOp
    simp only [ho, resolve, invoke, builtin, Sem.run_bind, Sem.run_pure, Result.andThen_ok, List.map_toArray, List.map_cons, List.map_nil, hs, hx, hrun]
    exact hK _ _ h

/-- A slice of slices of bytes: its cells are the values vs, and each reads as the bytes beside it. -/
structure RdL (w : World) (B : Nat) (A : Option Addr) (n c : Nat) (l : List (Value × List UInt8)) : Prop where
  len : l.length = n
  cap : n ≤ c
  capm : c ≤ 9223372036854775807
  rds : Reads w B 1 A n (l.map (·.1))
  each : ∀ v xs, (v, xs) ∈ l → RdV w B v xs

section
variable {w w' : World} {B B' n c : Nat} {A : Option Addr} {l : List (Value × List UInt8)}
theorem RdL.keep (h : RdL w B A n c l) (hk : ∀ p : Addr, p.block < B → w'.cell? p = w.cell? p) : RdL w' B A n c l := ⟨h.len, h.cap, h.capm, h.rds.keep hk, fun v xs hm => (h.each v xs hm).keep hk⟩
theorem RdL.below (h : RdL w B A n c l) (hb : Below B w w') : RdL w' B A n c l := h.keep fun _ hp => hb.cell hp
theorem RdL.more (h : RdL w B A n c l) (hB : B ≤ B') : RdL w B' A n c l := ⟨h.len, h.cap, h.capm, h.rds.more hB, fun v xs hm => (h.each v xs hm).more hB⟩
theorem RdL.up (h : RdL w w.heap.size A n c l) (hb : Below w.heap.size w w') : RdL w' w'.heap.size A n c l := (h.below hb).more hb.size
/-- One part: its cell, and what it reads as. -/
theorem RdL.get (h : RdL w B A n c l) {k : Nat} (hk : k < n) : ∃ b o A' n' c' xs, A = some ⟨b, o, none⟩ ∧ b < B ∧ l[k]? = some (.slice A' n' c', xs) ∧ w.cell? ⟨b, o + k, none⟩ = some (.slice A' n' c') ∧ Rd w B A' n' c' xs := by
  obtain ⟨ad, u, rfl, hb, hx, hc⟩ := h.rds.at_ hk
  have hl : k < l.length := by have := h.len; omega
  have he : l[k]? = some l[k] := List.getElem?_eq_getElem hl
  obtain ⟨A', n', c', e, hr⟩ := h.each l[k].1 l[k].2 (List.getElem_mem hl)
  have hu : u = l[k].1 := by simpa [he] using hx.symm
  obtain ⟨ad0, u0, e0, _, _, hc0⟩ := h.rds.at_ (k := 0) (by omega)
  injection e0 with e0
  subst e0
  obtain ⟨b, o, s⟩ := ad
  obtain rfl : s = none := by simpa [Addr.add] using World.cell?_spot hc0
  rw [Addr.add_lit] at hc
  exact ⟨b, o, A', n', c', l[k].2, rfl, hb, by rw [he, ← e], by rw [hc, hu, e], hr⟩
theorem RdL.plain (h : RdL w B A n c l) (hn : 0 < n) : ∃ b o, A = some ⟨b, o, none⟩ ∧ b < B := by
  obtain ⟨b, o, _, _, _, _, e, hb, _⟩ := h.get hn
  exact ⟨b, o, e, hb⟩
/-- The cell and the reading of part k, where the list's address is known. -/
theorem RdL.part {b o : Nat} (h : RdL w B (some ⟨b, o, none⟩) n c l) {k : Nat} (hk : k < n) : ∃ A' n' c' xs, l[k]? = some (.slice A' n' c', xs) ∧ w.cell? ⟨b, o + k, none⟩ = some (.slice A' n' c') ∧ Rd w B A' n' c' xs := by
  obtain ⟨b', o', A', n', c', xs, e, _, h1, h2, h3⟩ := h.get hk
  injection e with e
  injection e with e1 e2
  subst e1 e2
  exact ⟨A', n', c', xs, h1, h2, h3⟩
end

/-- The parts, one behind the other. -/
def cat (l : List (Value × List UInt8)) : List UInt8 := (l.map (·.2)).flatten
theorem cat_take_succ {l : List (Value × List UInt8)} {k : Nat} {v : Value} {xs : List UInt8} (h : l[k]? = some (v, xs)) : cat (l.take (k + 1)) = cat (l.take k) ++ xs := by
  rw [List.take_add_one, h]
  simp [cat]
theorem cat_append (a b : List (Value × List UInt8)) : cat (a ++ b) = cat a ++ cat b := by simp [cat]
theorem cat_take_le (l : List (Value × List UInt8)) (k : Nat) : (cat (l.take k)).length ≤ (cat l).length := by
  have h := cat_append (l.take k) (l.drop k)
  rw [List.take_append_drop] at h
  rw [h, List.length_append]
  omega
end Go.Proofs.YtmpladnglfiejaaGreatDoor
end

section
/- Small laws on rows of bytes: one that was written out; one that another row's append keeps. -/
namespace Go.Proofs.YtmpladnglfiejaaGreatDoor
open Go.RowKit
set_option maxRecDepth 100000

/-- A slice of bytes that was written out is a row of the call's own. -/
theorem OwnB.lit (w : World) (xs : List UInt8) (cs : List Value) (n : Nat) (hc : cs = xs.map bv) (hl : xs.length = n) (hn : n ≤ 1099511627776) :
    OwnB (w.alloc (.cells cs.toArray 5)) w.heap.size (w.heap.size + 1) (.slice (some ⟨w.heap.size, 0, none⟩) n n) xs := by
  subst hc hl
  refine ⟨⟨by simp, .inr ⟨w.heap.size, _, _, rfl, Nat.le_refl _, heap_alloc_new w _, Nat.le_refl _, by simp only [maxLen]; omega, by simp, by simp only [Nat.mul_one]; rw [List.take_of_length_le (by simp)]⟩⟩, fun k hk => by simp [Value.ownBlock] at hk; omega⟩

/-- An owned row is kept by an append onto another row. -/
theorem OwnB.kept {w w' : World} {lo hi : Nat} {v v0 : Value} {xs : List UInt8} (h : OwnB w lo hi v xs) (hg : w.grownBy w' v0.ownBlock) (hh : hi ≤ w.heap.size) (hn : ∀ k, v0.ownBlock = some k → k < lo ∨ hi ≤ k) : OwnB w' lo hi v xs :=
  h.keep fun k h1 h2 => hg.block k (by omega) (fun e => by have := hn k e.symm; omega)

theorem reads_block (w : World) (t : TypeId) (cs : List Value) (g : Nat) (hg : g = w.heap.size) : Reads (w.alloc (.cells cs.toArray t)) (w.alloc (.cells cs.toArray t)).heap.size 1 (some ⟨g, 0, none⟩) cs.length cs := by
  subst hg
  refine ⟨by simp, fun _ => ⟨_, rfl, by simp, fun j x hx => ?_⟩⟩
  rw [Addr.add_lit, World.cell?_alloc_at _ _ _ _ rfl]
  simpa using hx
/-- A slice of bytes that was written out. -/
theorem Rd.lit (w : World) (t : TypeId) (xs : List UInt8) (cs : List Value) (g n : Nat) (hg : g = w.heap.size) (hc : cs = xs.map bv) (hl : xs.length = n) (hn : n ≤ 1099511627776) :
    Rd (w.alloc (.cells cs.toArray t)) (w.alloc (.cells cs.toArray t)).heap.size (some ⟨g, 0, none⟩) n n xs := by
  subst hc hl
  refine ⟨rfl, Nat.le_refl _, by omega, fun e => (by cases e), fun _ => ⟨_, 0, rfl, by subst hg; simp⟩, ?_⟩
  have := reads_block w t (xs.map bv) g hg
  rwa [List.length_map] at this
/-- A slice of slices of bytes that was written out. -/
theorem RdL.lit (w : World) (t : TypeId) (l : List (Value × List UInt8)) (cs : List Value) (g n : Nat) (hg : g = w.heap.size) (hc : cs = l.map (·.1)) (hl : l.length = n) (hn : n ≤ 1099511627776) (h : ∀ v xs, (v, xs) ∈ l → RdV w w.heap.size v xs) :
    RdL (w.alloc (.cells cs.toArray t)) (w.alloc (.cells cs.toArray t)).heap.size (some ⟨g, 0, none⟩) n n l := by
  subst hc hl
  refine ⟨rfl, Nat.le_refl _, by omega, ?_, fun v xs hm => ?_⟩
  · have := reads_block w t (l.map (·.1)) g hg
    rwa [List.length_map] at this
  · obtain ⟨A, n, c, e, hr⟩ := h v xs hm
    exact ⟨A, n, c, e, (hr.alloc (Nat.le_refl _) _).more (by simp)⟩

theorem bv_ofNat {n : Nat} (h : n < 256) : bv (UInt8.ofNat n) = Value.int .u8 (n : Int) := by
  simp only [bv, UInt8.toNat_ofNat']
  rw [Nat.mod_eq_of_lt (by omega)]

/-- A byte of an owned row is stored. -/
theorem OwnB.stored {w : World} {lo hi g n cap : Nat} {xs : List UInt8} (h : OwnB w lo hi (.slice (some ⟨g, 0, none⟩) n cap) xs) (hn : xs.length = n) (j : Nat) (x : UInt8) :
    OwnB (w.setCell ⟨g, j, none⟩ (.int .u8 (x.toNat : Int))) lo hi (.slice (some ⟨g, 0, none⟩) n cap) (xs.set j x) := by
  subst hn
  have hs := (h.1.stored j (bv x)).1
  refine ⟨?_, h.2⟩
  rw [List.map_set, List.length_set]
  exact hs
theorem OwnB.cellAt {w : World} {lo hi g n cap : Nat} {xs : List UInt8} (h : OwnB w lo hi (.slice (some ⟨g, 0, none⟩) n cap) xs) (hn : xs.length = n) {j : Nat} (hj : j < n) :
    ∃ x, xs[j]? = some x ∧ w.cell? ⟨g, j, none⟩ = some (.int .u8 (x.toNat : Int)) := by
  subst hn
  refine ⟨xs[j], List.getElem?_eq_getElem hj, ?_⟩
  rw [h.1.cellAt j (by omega)]
  simp [bv, hj]

theorem grownBy_store {w wr : World} {g : Nat} (h : w.grownBy wr (some g)) (o : Nat) (u : Value) : w.grownBy (wr.setCell ⟨g, o, none⟩ u) (some g) :=
  ⟨h.os, h.tape, h.output, by simpa [World.setCell] using h.size, fun i hi hne => (Below.heap_setCell wr _ u i (by rintro rfl; exact hne rfl)).trans (h.block i hi hne)⟩
theorem grownBy_drewN {w wr : World} {r : Option Nat} (h : w.grownBy wr r) (n : Nat) : w.grownBy (wr.drewN n) r := ⟨h.os, h.tape, h.output, h.size, h.block⟩

def CatRel (l : List (Value × List UInt8)) (w : World) (k : Nat) (v : Value) (wr : World) : Prop := OwnB wr w.heap.size wr.heap.size v (cat (l.take k)) ∧ Below w.heap.size w wr

end Go.Proofs.YtmpladnglfiejaaGreatDoor
end

section
/- Arguments opened: a slice of bytes that came in, as the list of its bytes. -/
namespace Go.Proofs.YtmpladnglfiejaaGreatDoor
open Go.ChangeShapes Go.WideShapes Go.ChangeAt Go.RowKit

theorem u8_of_wf {n : Int} (h : (Lit.int .u8 n).wf = true) : ((UInt8.ofNat n.toNat).toNat : Int) = n := by
  have h1 : IntKind.u8.min = 0 := rfl
  have h2 : IntKind.u8.max = 255 := rfl
  simp only [Lit.wf, Bool.and_eq_true, decide_eq_true_eq] at h
  rw [UInt8.toNat_ofNat']
  omega

/-- A slice of bytes that came in: nil or not. -/
theorem open_bytes {H : Type} {enc : TypeId × Value → H} {W : World} {a0 : Option Addr} {len cap : Nat} {d0 : DataW H} {p : List MemPlace}
    (h0 : DataW.Trod enc Tryz.prog W 0 (fun _ => true) true 22 (.slice a0 len cap) d0 p) : ∃ xs : List UInt8, Rd W W.heap.size a0 len cap xs := by
  obtain ⟨fuel, hf⟩ := h0
  rcases open_ints Tryz.underlying22 Tryz.underlying5 (by kernel_rfl) hf with ⟨hcs, _⟩ | ⟨x, l, c, zs, hcs, _, hl, hm, hz, _, hcell, hwz⟩
  · simp [Value.cells] at hcs
    obtain ⟨rfl, rfl, rfl⟩ := hcs
    exact ⟨[], Rd.none_⟩
  · simp [Value.cells] at hcs
    obtain ⟨rfl, rfl, rfl⟩ := hcs
    have hz' : zs.length = cap := by simpa using hz
    have hadd : ∀ i, i < cap → W.cell? (x.add i) = some (.int .u8 (zs.getD i 0)) := fun i hi => hcell i (by omega)
    refine ⟨(zs.take len).map fun n => UInt8.ofNat n.toNat, by simp; omega, hl, by simpa [maxLen] using hm, (fun e => by cases e), fun hc => ?_, by simp; omega, fun hn => ?_⟩
    · obtain ⟨b, o, s⟩ := x
      have h1 := hadd 0 hc
      obtain rfl : s = none := by simpa [Addr.add] using World.cell?_spot h1
      have hlt := World.block_lt_of_cell? W _ h1
      exact ⟨b, o, rfl, by simpa [Addr.add] using hlt⟩
    · have h1 := hadd 0 (by omega)
      have hlt := World.block_lt_of_cell? W _ h1
      refine ⟨x, rfl, by rw [block_of_add] at hlt; exact hlt, fun j u hu => ?_⟩
      have hj : j < len := by
        have := (List.getElem?_eq_some_iff.1 hu).1
        simp at this; omega
      rw [hadd j (by omega)]
      have hzj : zs[j]? = some (zs[j]'(by omega)) := List.getElem?_eq_getElem (by omega)
      have hw := hwz (zs[j]'(by omega)) (List.getElem_mem _)
      simp only [List.map_map, List.getElem?_map, List.getElem?_take, if_pos hj, hzj, Option.map_some, Function.comp, Option.some.injEq] at hu
      subst hu
      simp only [List.getD, hzj, Option.getD_some, bv]
      rw [u8_of_wf hw]
end Go.Proofs.YtmpladnglfiejaaGreatDoor
end
