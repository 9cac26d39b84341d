/- Words for byte slices in memory, used by all the texts of this seat. Plain lemmas over any program; no condition. -/
import Derived.WalkKit
import Derived.Deep.Draws
import Derived.Lib.Hide
import Derived.Deep.AppendLies
import Derived.Maps.AppendAt
import Derived.RegionTactic
import Derived.OwnWalk
import Derived.Laws.OwnMore
namespace Go.Proofs.YtnfngnmajjkdbaaDoor
open Go.RowKit

theorem block_of_add (a : Addr) (n : Nat) : (a.add n).block = a.block := by unfold Addr.add; split <;> rfl
theorem add_of_add (a : Addr) (i j : Nat) : (a.add i).add j = a.add (i + j) := by
  unfold Addr.add
  by_cases hi : i = 0 <;> by_cases hj : j = 0 <;> simp [hi, hj, Nat.add_assoc]

def Reads (w : World) (B size : Nat) (A : Option Addr) (n : Nat) (xs : List Value) : Prop :=
  xs.length = n * size ∧ (0 < n → ∃ ad, A = some ad ∧ ad.block < B ∧ ∀ j u, xs[j]? = some u → w.cell? (ad.add j) = some u)

section
variable {w w' : World} {B B' size n : Nat} {A : Option Addr} {xs : List Value}
theorem Reads.none_ : Reads w B size A 0 [] := ⟨by simp, fun h => absurd h (by omega)⟩
theorem Reads.at_ {k : Nat} (h : Reads w B 1 A n xs) (hk : k < n) : ∃ ad u, A = some ad ∧ ad.block < B ∧ xs[k]? = some u ∧ w.cell? (ad.add k) = some u := by
  obtain ⟨ad, e, hb, hc⟩ := h.2 (by omega)
  have hl : k < xs.length := by have := h.1; omega
  exact ⟨ad, xs[k], e, hb, List.getElem?_eq_getElem hl, hc k _ (List.getElem?_eq_getElem hl)⟩
theorem Reads.keep (h : Reads w B size A n xs) (hk : ∀ p : Addr, p.block < B → w'.cell? p = w.cell? p) : Reads w' B size A n xs :=
  ⟨h.1, fun hn => by
    obtain ⟨ad, e, hb, hc⟩ := h.2 hn
    exact ⟨ad, e, hb, fun j u hu => (hk _ (by rw [block_of_add]; exact hb)).trans (hc j u hu)⟩⟩
theorem Reads.more (h : Reads w B size A n xs) (hB : B ≤ B') : Reads w B' size A n xs :=
  ⟨h.1, fun hn => by
    obtain ⟨ad, e, hb, hc⟩ := h.2 hn
    exact ⟨ad, e, by omega, hc⟩⟩
theorem Reads.below (h : Reads w B size A n xs) (hb : Below B w w') : Reads w' B size A n xs := h.keep fun _ hp => hb.cell hp
theorem Reads.drew (h : Reads w B size A n xs) : Reads w.drew B size A n xs := h
theorem Reads.drewN (h : Reads w B size A n xs) (k : Nat) : Reads (w.drewN k) B size A n xs := h
theorem Reads.alloc (h : Reads w B size A n xs) (hB : B ≤ w.heap.size) (o : Obj) : Reads (w.alloc o) B size A n xs := h.keep fun p hp => World.cell?_alloc_lt w o p (by omega)
theorem Reads.setCell (h : Reads w B size A n xs) {p : Addr} (hB : B ≤ p.block) (u : Value) : Reads (w.setCell p u) B size A n xs :=
  h.keep fun q hq => World.cell?_setCell_other w p q u (fun e => by subst e; omega)
theorem Reads.grown (h : Reads w B size A n xs) {row : Option Nat} (hg : w.grownBy w' row) (hB : B ≤ w.heap.size) (hr : ∀ g, row = some g → B ≤ g) : Reads w' B size A n xs :=
  h.keep fun p hp => World.cell?_of_block (hg.block p.block (by omega) (fun e => by have := hr _ e.symm; omega))
theorem Reads.cut (h : Reads w B size A n xs) {k cap : Nat} (hk : k ≤ n) (hc : n ≤ cap) :
    Reads w B size (if cap = k then A else A.map (·.add (k * size))) (n - k) (xs.drop (k * size)) := by
  refine ⟨by rw [List.length_drop, h.1, Nat.sub_mul], fun hn => ?_⟩
  obtain ⟨ad, rfl, hb, hcell⟩ := h.2 (by omega)
  rw [if_neg (by omega)]
  refine ⟨ad.add (k * size), rfl, by rw [block_of_add]; exact hb, fun j u hu => ?_⟩
  rw [add_of_add]
  exact hcell _ u (by rw [← hu, List.getElem?_drop])
theorem Reads.of_own {base : Nat} {e : TypeId} {c : Nat} (h : w.ownsRow base e size (.slice A n c) n xs) : Reads w w.heap.size size A n xs := by
  refine ⟨h.1, fun hn => ?_⟩
  obtain ⟨g, cap, hv, _, hlt⟩ := h.form hn
  have hA : A = some ⟨g, 0, none⟩ := by injection hv
  subst hA
  exact ⟨_, rfl, hlt, h.cells (g := g) rfl⟩
end

/-- A byte as a cell. -/
def bv (x : UInt8) : Value := .int .u8 (x.toNat : Int)

theorem bv_one (xs : List UInt8) : ∀ u ∈ xs.map bv, u.oneCell' = true := by
  intro u hu
  obtain ⟨_, _, rfl⟩ := List.mem_map.1 hu
  rfl

/-- The slice '.slice A n c' reads as the bytes xs, which lie below block B. -/
structure Rd (w : World) (B : Nat) (A : Option Addr) (n c : Nat) (xs : List UInt8) : Prop where
  len : xs.length = n
  cap : n ≤ c
  capm : c ≤ 9223372036854775807
  nil : A = none → c = 0
  spot : 0 < c → ∃ b o, A = some ⟨b, o, none⟩ ∧ b < B
  rds : Reads w B 1 A n (xs.map bv)

def RdV (w : World) (B : Nat) (v : Value) (xs : List UInt8) : Prop := ∃ A n c, v = .slice A n c ∧ Rd w B A n c xs

section
variable {w w' : World} {B B' n c : Nat} {A : Option Addr} {xs : List UInt8} {v : Value}

theorem Rd.keep (h : Rd w B A n c xs) (hk : ∀ p : Addr, p.block < B → w'.cell? p = w.cell? p) : Rd w' B A n c xs := ⟨h.len, h.cap, h.capm, h.nil, h.spot, h.rds.keep hk⟩
theorem Rd.more (h : Rd w B A n c xs) (hB : B ≤ B') : Rd w B' A n c xs :=
  ⟨h.len, h.cap, h.capm, h.nil, fun hc => by obtain ⟨b, o, e, hb⟩ := h.spot hc; exact ⟨b, o, e, by omega⟩, h.rds.more hB⟩
theorem Rd.below (h : Rd w B A n c xs) (hb : Below B w w') : Rd w' B A n c xs := h.keep fun _ hp => hb.cell hp
theorem Rd.drew (h : Rd w B A n c xs) : Rd w.drew B A n c xs := h.keep fun _ _ => rfl
theorem Rd.drewN (h : Rd w B A n c xs) (k : Nat) : Rd (w.drewN k) B A n c xs := h.keep fun _ _ => rfl
theorem Rd.alloc (h : Rd w B A n c xs) (hB : B ≤ w.heap.size) (o : Obj) : Rd (w.alloc o) B A n c xs := h.keep fun p hp => World.cell?_alloc_lt w o p (by omega)
theorem Rd.setCell (h : Rd w B A n c xs) {p : Addr} (hB : B ≤ p.block) (u : Value) : Rd (w.setCell p u) B A n c xs :=
  h.keep fun q hq => World.cell?_setCell_other w p q u (fun e => by subst e; omega)
theorem Rd.grown (h : Rd w B A n c xs) {row : Option Nat} (hg : w.grownBy w' row) (hB : B ≤ w.heap.size) (hr : ∀ g, row = some g → B ≤ g) : Rd w' B A n c xs :=
  h.keep fun p hp => World.cell?_of_block (hg.block p.block (by omega) (fun e => by have := hr _ e.symm; omega))
/-- What reads in w reads in a world that has kept all of w. -/
theorem Rd.up (h : Rd w w.heap.size A n c xs) (hb : Below w.heap.size w w') : Rd w' w'.heap.size A n c xs := (h.below hb).more hb.size
theorem Rd.none_ : Rd w B none 0 0 [] := ⟨rfl, Nat.le_refl _, by omega, fun _ => rfl, fun h => absurd h (by omega), Reads.none_⟩

/-- The bytes of a slice that has some lie at a plain address. -/
theorem Rd.at_ (h : Rd w B A n c xs) (hn : 0 < n) : ∃ b o, A = some ⟨b, o, none⟩ ∧ b < B ∧ ∀ j x, xs[j]? = some x → w.cell? ⟨b, o + j, none⟩ = some (.int .u8 (x.toNat : Int)) := by
  have hc := h.cap
  obtain ⟨b, o, rfl, hb⟩ := h.spot (by omega)
  obtain ⟨ad, e, _, hcell⟩ := h.rds.2 hn
  injection e with e
  subst e
  refine ⟨b, o, rfl, hb, fun j x hx => ?_⟩
  have := hcell j (bv x) (by simp [hx])
  rw [Addr.add_lit] at this
  exact this
/-- One byte. -/
theorem Rd.get {b o : Nat} (h : Rd w B (some ⟨b, o, none⟩) n c xs) {k : Nat} (hk : k < n) : ∃ x, xs[k]? = some x ∧ w.cell? ⟨b, o + k, none⟩ = some (.int .u8 (x.toNat : Int)) := by
  obtain ⟨b', o', e, _, hc⟩ := h.at_ (by omega)
  injection e with e
  injection e with e1 e2
  subst e1 e2
  have hl : k < xs.length := by have := h.len; omega
  exact ⟨xs[k], List.getElem?_eq_getElem hl, hc k _ (List.getElem?_eq_getElem hl)⟩

/-- 'v[lo:hi]', as the model spells it. -/
theorem Rd.cut (h : Rd w B A n c xs) {lo hi : Nat} (h1 : lo ≤ hi) (h2 : hi ≤ n) : Rd w B (if c = lo then A else A.map (·.add lo)) (hi - lo) (c - lo) ((xs.take hi).drop lo) := by
  have hc := h.cap
  have hl := h.len
  have hm := h.capm
  refine ⟨by simp; omega, by omega, by omega, fun hA => ?_, fun h0 => ?_, ?_⟩
  · by_cases e : c = lo
    · omega
    · rw [if_neg e] at hA
      have := h.nil (by cases A <;> simp_all)
      omega
  · obtain ⟨b, o, rfl, hb⟩ := h.spot (by omega)
    rw [if_neg (by omega)]
    exact ⟨b, o + lo, by simp [Addr.add_lit], hb⟩
  · refine ⟨by simp; omega, fun h0 => ?_⟩
    obtain ⟨b, o, rfl, hb, hcell⟩ := h.at_ (by omega)
    rw [if_neg (by omega)]
    refine ⟨⟨b, o + lo, none⟩, by simp [Addr.add_lit], hb, fun j u hu => ?_⟩
    rw [Addr.add_lit]
    simp only [List.map_drop, List.map_take, List.getElem?_drop, List.getElem?_take, List.getElem?_map] at hu
    split at hu
    · cases hx : xs[lo + j]? with
      | none => simp [hx] at hu
      | some x =>
        simp [hx] at hu
        subst hu
        have := hcell (lo + j) x hx
        rw [← Nat.add_assoc] at this
        exact this
    · cases hu

theorem RdV.mk (h : Rd w B A n c xs) : RdV w B (.slice A n c) xs := ⟨A, n, c, rfl, h⟩
theorem RdV.keep (h : RdV w B v xs) (hk : ∀ p : Addr, p.block < B → w'.cell? p = w.cell? p) : RdV w' B v xs := by obtain ⟨A, n, c, e, h⟩ := h; exact ⟨A, n, c, e, h.keep hk⟩
theorem RdV.more (h : RdV w B v xs) (hB : B ≤ B') : RdV w B' v xs := by obtain ⟨A, n, c, e, h⟩ := h; exact ⟨A, n, c, e, h.more hB⟩
theorem RdV.below (h : RdV w B v xs) (hb : Below B w w') : RdV w' B v xs := h.keep fun _ hp => hb.cell hp
end

section
variable {P : Program} (w : World)

theorem run_append_of_nil (base : Nat) (t ty e : TypeId) (i : TypeInfo) (size : Nat) (ht : P.underlying t = some (.slice e)) (hi : P.info? e = some i)
    (v : Value) (n : Nat) (xs : List Value) (hown : w.ownsRow base e size v n xs) (c : Nat) : (Builtin.append_ #[t, t] ty #[v, .slice none 0 c]).run P w = .ok v w := by
  rcases hown.2 with ⟨rfl, rfl⟩ | ⟨g, cap, cur, rfl, _, _, hnc, _⟩
  · simp [Builtin.append_, run_underlying ht, sizeOf, typeInfo, hi, Builtin.lenOf, Builtin.firstCells]
  · simp [Builtin.append_, run_underlying ht, sizeOf, typeInfo, hi, Builtin.lenOf, Builtin.firstCells, hnc, storeCells]

theorem run_append_any (base : Nat) (t ty e : TypeId) (i : TypeInfo) (z : Value) (size bytes : Nat) (ht : P.underlying t = some (.slice e)) (hi : P.info? e = some i) (hz : i.zero = some z)
    (hsize : i.size = size) (hby : i.bytes = bytes) (hzs : z.cells.size = size) (hsz : 0 < size)
    (v : Value) (n : Nat) (xs : List Value) (hown : w.ownsRow base e size v n xs)
    (B : Nat) (A : Option Addr) (m c : Nat) (news : List Value) (hr : Reads w B size A m news) (h1 : ∀ u ∈ news, u.oneCell' = true)
    (h63 : n + m ≤ maxLen) (hbytes : (n + m) * bytes ≤ 140737488355328) (hbase : base ≤ w.heap.size) :
    ∃ v' w', (Builtin.append_ #[t, t] ty #[v, .slice A m c]).run P w = .ok v' w' ∧ w'.ownsRow base e size v' (n + m) (xs ++ news) ∧ w.grownBy w' v.ownBlock ∧
      (v'.ownBlock = v.ownBlock ∨ v'.ownBlock = some w.heap.size) := by
  rcases A with _ | ad
  · have hm : m = 0 := by
      rcases Nat.eq_zero_or_pos m with h0 | h0
      · exact h0
      · obtain ⟨ad, h, _⟩ := hr.2 h0
        cases h
    subst hm
    have hn : news = [] := List.eq_nil_of_length_eq_zero (by simpa using hr.1)
    subst hn
    exact ⟨v, w, run_append_of_nil w base t ty e i size ht hi v n xs hown c, by simpa using hown, World.grownBy.refl w _, .inl rfl⟩
  · have hcells : ∀ j u, news[j]? = some u → w.cell? (ad.add j) = some u := by
      intro j u hu
      rcases Nat.eq_zero_or_pos m with h0 | h0
      · subst h0
        have hn : news = [] := List.eq_nil_of_length_eq_zero (by simpa using hr.1)
        subst hn
        simp at hu
      · obtain ⟨ad', h, _, hc⟩ := hr.2 h0
        injection h with h
        subst h
        exact hc j u hu
    obtain ⟨v', w', hrun, h2, h3, _, h5⟩ := run_append_own_at (P := P) w base t ty e i z size bytes ht hi hz hsize hby hzs hsz v n xs hown ad m c news hr.1 hcells h1 h63 hbytes hbase
    exact ⟨v', w', hrun, h2, h3, h5⟩

theorem wp_append_any {o : Oper} {a : Act} {K : Act → World → Prop} {Q : Exit → Act → World → Prop} (s x : Operand) (t : TypeId)
    (ho : o.op = .call { callee := .builtin .append, args := #[s, x], argTypes := #[t, t] })
    (base : Nat) (e : TypeId) (i : TypeInfo) (z : Value) (size bytes : Nat) (ht : P.underlying t = some (.slice e)) (hi : P.info? e = some i) (hz : i.zero = some z)
    (hsize : i.size = size) (hby : i.bytes = bytes) (hzs : z.cells.size = size) (hsz : 0 < size)
    (v : Value) (n : Nat) (xs : List Value) (hs : a.eval s = v) (hown : w.ownsRow base e size v n xs)
    (B : Nat) (A : Option Addr) (m c : Nat) (news : List Value) (hx : a.eval x = .slice A m c) (hr : Reads w B size A m news) (h1 : ∀ u ∈ news, u.oneCell' = true)
    (h63 : n + m ≤ maxLen) (hbytes : (n + m) * bytes ≤ 140737488355328) (hbase : base ≤ w.heap.size)
    (h : ∀ v' w', w'.ownsRow base e size v' (n + m) (xs ++ news) → w.grownBy w' v.ownBlock → (v'.ownBlock = v.ownBlock ∨ v'.ownBlock = some w.heap.size) → K (a.put o.dst v') w') : o.wp P a w K Q := by
  obtain ⟨v', w', hrun, h2, h3, h4⟩ := run_append_any (P := P) w base t o.type e i z size bytes ht hi hz hsize hby hzs hsz v n xs hown B A m c news hr h1 h63 hbytes hbase
  unfold Oper.wp execOp
  simp only [ho, resolve, invoke, builtin, Sem.run_bind, Sem.run_pure, Result.andThen_ok, List.map_toArray, List.map_cons, List.map_nil, hs, hx, hrun]
  exact h v' w' h2 h3 h4

theorem wpList_append_any {ops : Array Oper} {rest : List Oper} {o : Oper} {a : Act} {Q : Exit → Act → World → Prop} (hgd : o.guard = none) (s x : Operand) (t : TypeId)
    (ho : o.op = .call { callee := .builtin .append, args := #[s, x], argTypes := #[t, t] })
    (base : Nat) (e : TypeId) (i : TypeInfo) (z : Value) (size bytes : Nat) (ht : P.underlying t = some (.slice e)) (hi : P.info? e = some i) (hz : i.zero = some z)
    (hsize : i.size = size) (hby : i.bytes = bytes) (hzs : z.cells.size = size) (hsz : 0 < size)
    (v : Value) (n : Nat) (xs : List Value) (hs : a.eval s = v) (hown : w.ownsRow base e size v n xs)
    (B : Nat) (A : Option Addr) (m c : Nat) (news : List Value) (hx : a.eval x = .slice A m c) (hr : Reads w B size A m news) (h1 : ∀ u ∈ news, u.oneCell' = true)
    (h63 : n + m ≤ maxLen) (hbytes : (n + m) * bytes ≤ 140737488355328) (hbase : base ≤ w.heap.size)
    (h : ∀ v' w', w'.ownsRow base e size v' (n + m) (xs ++ news) → w.grownBy w' v.ownBlock → (v'.ownBlock = v.ownBlock ∨ v'.ownBlock = some w.heap.size) → wpList P ops Q rest (a.put o.dst v') w') : wpList P ops Q (o :: rest) a w :=
  wpList_plain hgd fun _ hK => wp_append_any w s x t ho base e i z size bytes ht hi hz hsize hby hzs hsz v n xs hs hown B A m c news hx hr h1 h63 hbytes hbase fun v' w' h2 h3 h4 => hK _ _ (h v' w' h2 h3 h4)

theorem step_append_any {ops : Array Oper} {o : Oper} {a : Act} {K : Act → World → Prop} {Q : Exit → Act → World → Prop} {E : Prop} (hgd : o.guard = none) (s x : Operand) (t : TypeId)
    (ho : o.op = .call { callee := .builtin .append, args := #[s, x], argTypes := #[t, t] })
    (base : Nat) (e : TypeId) (i : TypeInfo) (z : Value) (size bytes : Nat) (ht : P.underlying t = some (.slice e)) (hi : P.info? e = some i) (hz : i.zero = some z)
    (hsize : i.size = size) (hby : i.bytes = bytes) (hzs : z.cells.size = size) (hsz : 0 < size)
    (v : Value) (n : Nat) (xs : List Value) (hs : a.eval s = v) (hown : w.ownsRow base e size v n xs)
    (B : Nat) (A : Option Addr) (m c : Nat) (news : List Value) (hx : a.eval x = .slice A m c) (hr : Reads w B size A m news) (h1 : ∀ u ∈ news, u.oneCell' = true)
    (h63 : n + m ≤ maxLen) (hbytes : (n + m) * bytes ≤ 140737488355328) (hbase : base ≤ w.heap.size)
    (h : ∀ v' w', w'.ownsRow base e size v' (n + m) (xs ++ news) → w.grownBy w' v.ownBlock → (v'.ownBlock = v.ownBlock ∨ v'.ownBlock = some w.heap.size) → K (a.put o.dst v') w') :
    if Region.wanted o (yielded ops a.tmps) = true then Oper.wp P o a w K Q else E := by
  have hw : Region.wanted o (yielded ops a.tmps) = true := by simp [Region.wanted, hgd]
  rw [if_pos hw]
  exact wp_append_any w s x t ho base e i z size bytes ht hi hz hsize hby hzs hsz v n xs hs hown B A m c news hx hr h1 h63 hbytes hbase h
end


/-- The one-element slice that an append of a literal lays. -/
theorem Reads.one (w : World) (t : TypeId) (u : Value) : Reads (w.alloc (.cells #[u] t)) (w.heap.size + 1) 1 (some ⟨w.heap.size, 0, none⟩) 1 [u] := by
  refine ⟨rfl, fun _ => ⟨_, rfl, by simp, fun j x hx => ?_⟩⟩
  rw [Addr.add_lit]
  have hj : j = 0 := by
    have := (List.getElem?_eq_some_iff.1 hx).1
    simp at this; omega
  subst hj
  simp at hx
  subst hx
  rw [World.cell?_alloc_at _ _ _ _ rfl]
  rfl
theorem below_drewN {B : Nat} {a w : World} (h : Below B a w) (n : Nat) : Below B a (w.drewN n) := ⟨h.os, h.tape, h.output, h.size, h.block⟩
/-! ### Rows of the call's own -/
/-- v is nil, or starts at the head of a block in [lo, hi) that is known whole; its elements are the bytes xs. -/
def OwnB (w : World) (lo hi : Nat) (v : Value) (xs : List UInt8) : Prop :=
  w.ownsRow lo 5 1 v xs.length (xs.map bv) ∧ ∀ k, v.ownBlock = some k → k < hi

section
variable {w w' : World} {lo hi lo' hi' B : Nat} {v : Value} {xs : List UInt8}

theorem OwnB.of {n : Nat} (h : w.ownsRow lo 5 1 v n (xs.map bv)) : OwnB w lo w.heap.size v xs := by
  have hn : n = xs.length := by have := h.1; simp at this; omega
  subst hn
  exact ⟨h, fun k hk => (h.lt k hk).2⟩
theorem OwnB.nil_ : OwnB w lo hi (.slice none 0 0) [] := ⟨World.ownsRow_nil _ _ _ _, fun k hk => by simp [Value.ownBlock] at hk⟩
theorem OwnB.mono (h : OwnB w lo hi v xs) (h1 : lo' ≤ lo) (h2 : hi ≤ hi') : OwnB w lo' hi' v xs := by
  refine ⟨⟨h.1.1, ?_⟩, fun k hk => Nat.lt_of_lt_of_le (h.2 k hk) h2⟩
  rcases h.1.2 with e | ⟨g, cap, cur, e, hb, r⟩
  · exact .inl e
  · exact .inr ⟨g, cap, cur, e, by omega, r⟩
theorem OwnB.keep (h : OwnB w lo hi v xs) (hk : ∀ k, lo ≤ k → k < hi → w'.heap[k]? = w.heap[k]?) : OwnB w' lo hi v xs := by
  refine ⟨⟨h.1.1, ?_⟩, h.2⟩
  rcases h.1.2 with e | ⟨g, cap, cur, rfl, hb, hg, r⟩
  · exact .inl e
  · exact .inr ⟨g, cap, cur, rfl, hb, (hk g hb (h.2 g rfl)).trans hg, r⟩
theorem OwnB.below (h : OwnB w lo hi v xs) (hb : Below B w w') (hB : hi ≤ B) : OwnB w' lo hi v xs := h.keep fun k _ hk => hb.block k (by omega)
theorem OwnB.drewN (h : OwnB w lo hi v xs) (n : Nat) : OwnB (w.drewN n) lo hi v xs := h.keep fun _ _ _ => rfl
theorem OwnB.alloc (h : OwnB w lo hi v xs) (hB : hi ≤ w.heap.size) (o : Obj) : OwnB (w.alloc o) lo hi v xs := h.keep fun k _ hk => Below.heap_alloc w o k (by omega)
theorem OwnB.setCell (h : OwnB w lo hi v xs) {p : Addr} (hp : p.block < lo ∨ hi ≤ p.block) (u : Value) : OwnB (w.setCell p u) lo hi v xs := h.keep fun k h1 hk => Below.heap_setCell w p u k (by omega)
/-- What is owned can be read. -/
theorem OwnB.rd (h : OwnB w lo hi v xs) : RdV w hi v xs := by
  rcases h.1.2 with ⟨rfl, hn⟩ | ⟨g, cap, cur, rfl, hb, hg, hnc, hcm, hcs, htake⟩
  · have : xs = [] := List.eq_nil_of_length_eq_zero hn
    subst this
    exact RdV.mk Rd.none_
  · have hlt := h.2 g rfl
    refine RdV.mk ⟨rfl, hnc, by simpa [maxLen] using hcm, (fun e => by cases e), fun _ => ⟨g, 0, rfl, hlt⟩, by simp, fun _ => ⟨_, rfl, hlt, fun j u hu => ?_⟩⟩
    exact h.1.cells (g := g) rfl j u hu
end

/-! ### Blocks that are known whole -/
def Blk (w : World) (g : Nat) (t : TypeId) (cs : Array Value) : Prop := w.heap[g]? = some (.cells cs t (0, 0))

section
variable {w w' : World} {g : Nat} {t : TypeId} {cs : Array Value}
theorem Blk.lt (h : Blk w g t cs) : g < w.heap.size := by
  rcases Nat.lt_or_ge g w.heap.size with hlt | hge
  · exact hlt
  · unfold Blk at h; rw [Array.getElem?_eq_none hge] at h; cases h
theorem Blk.cell (h : Blk w g t cs) (i : Nat) : w.cell? ⟨g, i, none⟩ = cs[i]? := cell_of_row w g i cs t (0, 0) h
theorem Blk.frozen (h : Blk w g t cs) (i : Nat) : w.frozen? ⟨g, i, none⟩ = false := by
  unfold Blk at h
  simp [World.frozen?, h]
theorem Blk.new (w : World) (t : TypeId) (cs : Array Value) : Blk (w.alloc (.cells cs t)) w.heap.size t cs := heap_alloc_new w _
theorem Blk.drew (h : Blk w g t cs) : Blk w.drew g t cs := h
theorem Blk.drewN (h : Blk w g t cs) (n : Nat) : Blk (w.drewN n) g t cs := h
theorem Blk.alloc (h : Blk w g t cs) (o : Obj) : Blk (w.alloc o) g t cs := (Below.heap_alloc w o g h.lt).trans h
theorem Blk.set_ (h : Blk w g t cs) (i : Nat) (u : Value) : Blk (w.setCell ⟨g, i, none⟩ u) g t (cs.setIfInBounds i u) := by
  unfold Blk at h ⊢
  simp [World.setCell, Array.getElem?_modify, h]
theorem Blk.far (h : Blk w g t cs) {p : Addr} (hp : g ≠ p.block) (u : Value) : Blk (w.setCell p u) g t cs := (Below.heap_setCell w p u g hp).trans h
theorem Blk.below {B : Nat} (h : Blk w g t cs) (hb : Below B w w') (hg : g < B) : Blk w' g t cs := (hb.block g hg).trans h
theorem Blk.grown {row : Option Nat} (h : Blk w g t cs) (hb : w.grownBy w' row) (hg : some g ≠ row) : Blk w' g t cs := (hb.block g h.lt hg).trans h
theorem Blk.ne_ {g' : Nat} {t' : TypeId} {cs' : Array Value} (h : Blk w g t cs) (h' : Blk w g' t' cs') (hne : t ≠ t') : g ≠ g' := by
  rintro rfl
  unfold Blk at h h'
  rw [h] at h'
  injection h' with h'
  injection h' with _ ht
  exact hne ht
end

/-- A block of the call's own behind a callee that keeps what was there: its cells, none frozen. -/
theorem Blk.box {B : Nat} {w w' : World} {g : Nat} {t : TypeId} {cs : Array Value} (h : Blk w g t cs) (hb : Below B w w') (hg : g < B) :
    (∀ o, w'.cell? ⟨g, o, none⟩ = cs[o]?) ∧ (∀ o, w'.frozen? ⟨g, o, none⟩ = false) ∧ Blk w' g t cs ∧ g < w'.heap.size := by
  have h' := h.below hb hg
  exact ⟨h'.cell, h'.frozen, h', h'.lt⟩
theorem Blk.facts {w : World} {g : Nat} {t : TypeId} {cs : Array Value} (h : Blk w g t cs) : (∀ o, w.cell? ⟨g, o, none⟩ = cs[o]?) ∧ (∀ o, w.frozen? ⟨g, o, none⟩ = false) := ⟨h.cell, h.frozen⟩

/-! ### Several rows of the call's own, one behind the other -/
def Owns (w : World) : Nat → Nat → List (Value × List UInt8) → Prop
  | lo, hi, [] => lo ≤ hi
  | lo, hi, (v, xs) :: r => ∃ mid, lo ≤ mid ∧ OwnB w lo mid v xs ∧ Owns w mid hi r

section
variable {w w' : World} {B : Nat}
theorem Owns.le : ∀ {l : List (Value × List UInt8)} {lo hi : Nat}, Owns w lo hi l → lo ≤ hi
  | [], _, _, h => h
  | (_, _) :: _, _, _, ⟨_, h1, _, h2⟩ => Nat.le_trans h1 (Owns.le h2)
theorem Owns.keep : ∀ {l : List (Value × List UInt8)} {lo hi : Nat}, Owns w lo hi l → (∀ k, lo ≤ k → k < hi → w'.heap[k]? = w.heap[k]?) → Owns w' lo hi l
  | [], _, _, h, _ => h
  | (_, _) :: _, _, _, ⟨mid, h1, h2, h3⟩, hk =>
    ⟨mid, h1, h2.keep fun k a b => hk k a (Nat.lt_of_lt_of_le b (Owns.le h3)), Owns.keep h3 fun k a b => hk k (Nat.le_trans h1 a) b⟩
theorem Owns.below {l : List (Value × List UInt8)} {lo hi : Nat} (h : Owns w lo hi l) (hb : Below B w w') (hB : hi ≤ B) : Owns w' lo hi l := h.keep fun k _ hk => hb.block k (by omega)
theorem Owns.alloc {l : List (Value × List UInt8)} {lo hi : Nat} (h : Owns w lo hi l) (hB : hi ≤ w.heap.size) (o : Obj) : Owns (w.alloc o) lo hi l := h.keep fun k _ hk => Below.heap_alloc w o k (by omega)
theorem Owns.setCell {l : List (Value × List UInt8)} {lo hi : Nat} (h : Owns w lo hi l) {p : Addr} (hp : p.block < lo ∨ hi ≤ p.block) (u : Value) : Owns (w.setCell p u) lo hi l := h.keep fun k h1 hk => Below.heap_setCell w p u k (by omega)
theorem Owns.mono : ∀ {l : List (Value × List UInt8)} {lo lo' hi hi' : Nat}, Owns w lo hi l → lo' ≤ lo → hi ≤ hi' → Owns w lo' hi' l
  | [], _, _, _, _, h, h1, h2 => by have h' : _ ≤ _ := h; exact Nat.le_trans h1 (Nat.le_trans h' h2)
  | (_, _) :: _, _, _, _, _, ⟨mid, h1, h2, h3⟩, h4, h5 => ⟨mid, Nat.le_trans h4 h1, h2.mono h4 (Nat.le_refl _), Owns.mono h3 (Nat.le_refl _) h5⟩
theorem Owns.one {lo hi : Nat} {v : Value} {xs : List UInt8} (h : OwnB w lo hi v xs) (hl : lo ≤ hi) : Owns w lo hi [(v, xs)] := ⟨hi, hl, h, Nat.le_refl _⟩
theorem Owns.append : ∀ {l l' : List (Value × List UInt8)} {lo mid hi : Nat}, Owns w lo mid l → Owns w mid hi l' → Owns w lo hi (l ++ l')
  | [], _, _, _, _, h, h' => h'.mono h (Nat.le_refl _)
  | (_, _) :: _, _, _, _, _, ⟨m, h1, h2, h3⟩, h' => ⟨m, h1, h2, Owns.append h3 h'⟩
/-- Each can be read. -/
theorem Owns.rd : ∀ {l : List (Value × List UInt8)} {lo hi : Nat}, Owns w lo hi l → ∀ {v : Value} {xs : List UInt8}, (v, xs) ∈ l → OwnB w lo hi v xs
  | (_, _) :: _, _, _, ⟨mid, h1, h2, h3⟩, v, xs, hm => by
    rcases List.mem_cons.1 hm with e | hm
    · injection e with e1 e2
      subst e1 e2
      exact h2.mono (Nat.le_refl _) (Owns.le h3)
    · exact (Owns.rd h3 hm).mono h1 (Nat.le_refl _)
end
end Go.Proofs.YtnfngnmajjkdbaaDoor
