/- Words for slices whose elements are any cells: rows of the call's own, append onto them; slices of slices of bytes. Plain lemmas over any program; no condition. -/
import Derived.Test.YtnfngnmajjkdbaaDoorMem
namespace Go.Proofs.YtnfngnmajjkdbaaDoor
open Go.RowKit

/-- v is nil, or starts at the head of a block in [lo, hi) that is known whole; its n elements of 'size' cells each are the cells cs. -/
def OwnC (e : TypeId) (size : Nat) (w : World) (lo hi : Nat) (v : Value) (n : Nat) (cs : List Value) : Prop :=
  w.ownsRow lo e size v n cs ∧ ∀ k, v.ownBlock = some k → k < hi

section
variable {e : TypeId} {size n : Nat} {w w' : World} {lo hi lo' hi' B : Nat} {v : Value} {cs : List Value}
theorem OwnC.of (h : w.ownsRow lo e size v n cs) : OwnC e size w lo w.heap.size v n cs := ⟨h, fun k hk => (h.lt k hk).2⟩
theorem OwnC.nil_ : OwnC e size w lo hi (.slice none 0 0) 0 [] := ⟨World.ownsRow_nil _ _ _ _, fun k hk => by simp [Value.ownBlock] at hk⟩
theorem OwnC.mono (h : OwnC e size w lo hi v n cs) (h1 : lo' ≤ lo) (h2 : hi ≤ hi') : OwnC e size w lo' hi' v n cs := by
  refine ⟨⟨h.1.1, ?_⟩, fun k hk => Nat.lt_of_lt_of_le (h.2 k hk) h2⟩
  rcases h.1.2 with e | ⟨g, cap, cur, e, hb, r⟩
  · exact .inl e
  · exact .inr ⟨g, cap, cur, e, by omega, r⟩
theorem OwnC.keep (h : OwnC e size w lo hi v n cs) (hk : ∀ k, lo ≤ k → k < hi → w'.heap[k]? = w.heap[k]?) : OwnC e size w' lo hi v n cs := by
  refine ⟨⟨h.1.1, ?_⟩, h.2⟩
  rcases h.1.2 with e | ⟨g, cap, cur, rfl, hb, hg, r⟩
  · exact .inl e
  · exact .inr ⟨g, cap, cur, rfl, hb, (hk g hb (h.2 g rfl)).trans hg, r⟩
theorem OwnC.below (h : OwnC e size w lo hi v n cs) (hb : Below B w w') (hB : hi ≤ B) : OwnC e size w' lo hi v n cs := h.keep fun k _ hk => hb.block k (by omega)
theorem OwnC.alloc (h : OwnC e size w lo hi v n cs) (hB : hi ≤ w.heap.size) (o : Obj) : OwnC e size (w.alloc o) lo hi v n cs := h.keep fun k _ hk => Below.heap_alloc w o k (by omega)
theorem OwnC.setCell (h : OwnC e size w lo hi v n cs) {p : Addr} (hp : p.block < lo ∨ hi ≤ p.block) (u : Value) : OwnC e size (w.setCell p u) lo hi v n cs := h.keep fun k h1 hk => Below.heap_setCell w p u k (by omega)
theorem OwnC.shape (h : OwnC e size w lo hi v n cs) : ∃ A c, v = .slice A n c ∧ n ≤ c ∧ c ≤ 9223372036854775807 ∧ (A = none → c = 0) ∧ Reads w hi size A n cs := by
  rcases h.1.2 with ⟨rfl, rfl⟩ | ⟨g, cap, cur, rfl, hb, hg, hnc, hcm, hcs, htake⟩
  · exact ⟨none, 0, rfl, Nat.le_refl _, by omega, fun _ => rfl, h.1.1, fun h => absurd h (by omega)⟩
  · exact ⟨_, cap, rfl, hnc, by simpa [maxLen] using hcm, (fun e => by cases e), h.1.1, fun _ => ⟨_, rfl, h.2 g rfl, fun j u hu => h.1.cells (g := g) rfl j u hu⟩⟩
end

/-- append onto a row of the call's own. -/
theorem wpList_appC {P : Program} {w : World} {ops : Array Oper} {rest : List Oper} {o : Oper} {a : Act} {Q : Exit → Act → World → Prop} (hgd : o.guard = none) (s x : Operand) (t : TypeId)
    (ho : o.op = .call { callee := .builtin .append, args := #[s, x], argTypes := #[t, t] })
    (e : TypeId) (z : Value) (size bytes : Nat) (hinfo : (P.info? e).map (fun i => (i.zero, i.size, i.bytes)) = some (some z, size, bytes)) (ht : P.underlying t = some (.slice e)) (hzs : z.cells.size = size) (hsz : 0 < size)
    (lo hi : Nat) (v : Value) (n : Nat) (xs : List Value) (hs : a.eval s = v) (hown : OwnC e size w lo hi v n xs) (hlo : lo ≤ w.heap.size)
    (B : Nat) (A : Option Addr) (m c : Nat) (news : List Value) (hx : a.eval x = .slice A m c) (hr : Reads w B size A m news) (h1 : ∀ u ∈ news, u.oneCell' = true) (h63 : n + m ≤ 9223372036854775807) (hlen : (n + m) * bytes ≤ 140737488355328)
    (h : ∀ v' w', OwnC e size w' lo w'.heap.size v' (n + m) (xs ++ news) → w.grownBy w' v.ownBlock → (v'.ownBlock = v.ownBlock ∨ v'.ownBlock = some w.heap.size) → Below lo w w' → wpList P ops Q rest (a.put o.dst v') w') :
    wpList P ops Q (o :: rest) a w := by
  obtain ⟨i0, hi0, hz0, hz1, hz2⟩ := info_parts hinfo
  refine wpList_append_any w hgd s x t ho lo e i0 z size bytes ht hi0 hz0 hz1 hz2 hzs hsz v n xs hs hown.1 B A m c news hx hr h1 (by simp only [maxLen]; omega) hlen hlo ?_
  intro v' w' g1 g2 g3
  exact h v' w' (OwnC.of g1) g2 g3 ((Below.refl _ _).grown g2 hlo fun k hk => (hown.1.lt k hk).1)

/-- A builtin append whose run is known. -/
theorem wpList_append_run {P : Program} {w w' : World} {ops : Array Oper} {rest : List Oper} {o : Oper} {a : Act} {Q : Exit → Act → World → Prop} (hgd : o.guard = none) (s x : Operand) (t t' : TypeId)
    (ho : o.op = .call { callee := .builtin .append, args := #[s, x], argTypes := #[t, t'] }) (v u r : Value) (hs : a.eval s = v) (hx : a.eval x = u)
    (hrun : (Builtin.append_ #[t, t'] o.type #[v, u]).run P w = .ok r w') (h : wpList P ops Q rest (a.put o.dst r) w') : wpList P ops Q (o :: rest) a w :=
  wpList_plain hgd fun _ hK => by
    unfold Oper.wp execOp
    simp only [ho, resolve, invoke, builtin, Sem.run_bind, Sem.run_pure, Result.andThen_ok, List.map_toArray, List.map_cons, List.map_nil, hs, hx, hrun]
    exact hK _ _ h

/-- A slice of slices of bytes: its cells are the values vs, and each reads as the bytes beside it. -/
structure RdL (w : World) (B : Nat) (A : Option Addr) (n c : Nat) (l : List (Value × List UInt8)) : Prop where
  len : l.length = n
  cap : n ≤ c
  capm : c ≤ 9223372036854775807
  rds : Reads w B 1 A n (l.map (·.1))
  each : ∀ v xs, (v, xs) ∈ l → RdV w B v xs

section
variable {w w' : World} {B B' n c : Nat} {A : Option Addr} {l : List (Value × List UInt8)}
theorem RdL.keep (h : RdL w B A n c l) (hk : ∀ p : Addr, p.block < B → w'.cell? p = w.cell? p) : RdL w' B A n c l := ⟨h.len, h.cap, h.capm, h.rds.keep hk, fun v xs hm => (h.each v xs hm).keep hk⟩
theorem RdL.below (h : RdL w B A n c l) (hb : Below B w w') : RdL w' B A n c l := h.keep fun _ hp => hb.cell hp
theorem RdL.more (h : RdL w B A n c l) (hB : B ≤ B') : RdL w B' A n c l := ⟨h.len, h.cap, h.capm, h.rds.more hB, fun v xs hm => (h.each v xs hm).more hB⟩
theorem RdL.up (h : RdL w w.heap.size A n c l) (hb : Below w.heap.size w w') : RdL w' w'.heap.size A n c l := (h.below hb).more hb.size
/-- One part: its cell, and what it reads as. -/
theorem RdL.get (h : RdL w B A n c l) {k : Nat} (hk : k < n) : ∃ b o A' n' c' xs, A = some ⟨b, o, none⟩ ∧ b < B ∧ l[k]? = some (.slice A' n' c', xs) ∧ w.cell? ⟨b, o + k, none⟩ = some (.slice A' n' c') ∧ Rd w B A' n' c' xs := by
  obtain ⟨ad, u, rfl, hb, hx, hc⟩ := h.rds.at_ hk
  have hl : k < l.length := by have := h.len; omega
  have he : l[k]? = some l[k] := List.getElem?_eq_getElem hl
  obtain ⟨A', n', c', e, hr⟩ := h.each l[k].1 l[k].2 (List.getElem_mem hl)
  have hu : u = l[k].1 := by simpa [he] using hx.symm
  obtain ⟨ad0, u0, e0, _, _, hc0⟩ := h.rds.at_ (k := 0) (by omega)
  injection e0 with e0
  subst e0
  obtain ⟨b, o, s⟩ := ad
  obtain rfl : s = none := by simpa [Addr.add] using World.cell?_spot hc0
  rw [Addr.add_lit] at hc
  exact ⟨b, o, A', n', c', l[k].2, rfl, hb, by rw [he, ← e], by rw [hc, hu, e], hr⟩
theorem RdL.plain (h : RdL w B A n c l) (hn : 0 < n) : ∃ b o, A = some ⟨b, o, none⟩ ∧ b < B := by
  obtain ⟨b, o, _, _, _, _, e, hb, _⟩ := h.get hn
  exact ⟨b, o, e, hb⟩
/-- The cell and the reading of part k, where the list's address is known. -/
theorem RdL.part {b o : Nat} (h : RdL w B (some ⟨b, o, none⟩) n c l) {k : Nat} (hk : k < n) : ∃ A' n' c' xs, l[k]? = some (.slice A' n' c', xs) ∧ w.cell? ⟨b, o + k, none⟩ = some (.slice A' n' c') ∧ Rd w B A' n' c' xs := by
  obtain ⟨b', o', A', n', c', xs, e, _, h1, h2, h3⟩ := h.get hk
  injection e with e
  injection e with e1 e2
  subst e1 e2
  exact ⟨A', n', c', xs, h1, h2, h3⟩
end

/-- The parts, one behind the other. -/
def cat (l : List (Value × List UInt8)) : List UInt8 := (l.map (·.2)).flatten
theorem cat_take_succ {l : List (Value × List UInt8)} {k : Nat} {v : Value} {xs : List UInt8} (h : l[k]? = some (v, xs)) : cat (l.take (k + 1)) = cat (l.take k) ++ xs := by
  rw [List.take_add_one, h]
  simp [cat]
theorem cat_append (a b : List (Value × List UInt8)) : cat (a ++ b) = cat a ++ cat b := by simp [cat]
theorem cat_take_le (l : List (Value × List UInt8)) (k : Nat) : (cat (l.take k)).length ≤ (cat l).length := by
  have h := cat_append (l.take k) (l.drop k)
  rw [List.take_append_drop] at h
  rw [h, List.length_append]
  omega
end Go.Proofs.YtnfngnmajjkdbaaDoor
