/- What the loops of lintelref00.Apart keep. -/
import Derived.Test.YtlfajfmkljnodaaDoorPeAp1
namespace Go.Proofs.YtlfajfmkljnodaaDoor
open Go.RowKit
set_option maxRecDepth 100000
set_option linter.unusedVariables false
set_option linter.unusedSimpArgs false

theorem apart_at {l : List (Value × List UInt8)} (h : Apart' l) {i j : Nat} {p q : Value × List UInt8} (hi : l[i]? = some p) (hj : l[j]? = some q) (hne : i ≠ j) : ∀ g, p.1.ownBlock = some g → q.1.ownBlock ≠ some g := by
  obtain ⟨hil, hip⟩ := List.getElem?_eq_some_iff.1 hi
  obtain ⟨hjl, hjq⟩ := List.getElem?_eq_some_iff.1 hj
  intro g h1 h2
  have hp := List.pairwise_iff_getElem.1 h
  rcases Nat.lt_or_gt_of_ne hne with hlt | hlt
  · exact hp i j hil hjl hlt g (by rw [hip]; exact h1) (by rw [hjq]; exact h2)
  · exact hp j i hjl hil hlt g (by rw [hjq]; exact h2) (by rw [hip]; exact h1)

/-- A row of bytes and a row of other things lie in different blocks. -/
theorem OwnB.other {w : World} {lo hi lo' hi' size n : Nat} {e : TypeId} {v v' : Value} {xs : List UInt8} {cs : List Value} (h : OwnB w lo hi v xs) (h' : OwnC e size w lo' hi' v' n cs) (he : 5 ≠ e) :
    ∀ q, v.ownBlock = some q → v'.ownBlock ≠ some q := by
  intro q h1 h2
  rcases h.1.2 with ⟨rfl, _⟩ | ⟨g, cap, cur, rfl, _, hg, _⟩
  · simp [Value.ownBlock] at h1
  · rcases h'.1.2 with ⟨rfl, _⟩ | ⟨g', cap', cur', rfl, _, hg', _⟩
    · simp [Value.ownBlock] at h2
    · simp only [Value.ownBlock, Option.some.injEq] at h1 h2
      subst h1 h2
      rw [hg] at hg'
      injection hg' with hg'
      injection hg' with _ ht
      exact he ht

theorem OwnC.grown {e : TypeId} {size n : Nat} {w w' : World} {lo hi : Nat} {v : Value} {cs : List Value} {row : Option Nat} (h : OwnC e size w lo hi v n cs) (hg : w.grownBy w' row) (hne : ∀ q, v.ownBlock = some q → row ≠ some q) : OwnC e size w' lo hi v n cs := by
  refine ⟨h.1.kept hg ?_, h.2⟩
  cases hv : v.ownBlock with
  | none => exact .inl rfl
  | some q => exact .inr (fun e => hne q hv e.symm)
theorem OwnC.lt_ {e : TypeId} {size n : Nat} {w : World} {lo hi q : Nat} {v : Value} {cs : List Value} (h : OwnC e size w lo hi v n cs) (hq : v.ownBlock = some q) : lo ≤ q ∧ q < hi := ⟨(h.1.lt q hq).1, h.2 q hq⟩
/-- One cell of a row of one-cell things. -/
theorem OwnC.one {e : TypeId} {n c : Nat} {w : World} {lo hi : Nat} {A : Option Addr} {cs : List Value} (h : OwnC e 1 w lo hi (.slice A n c) n cs) {j : Nat} (hj : j < n) :
    ∃ g u, A = some ⟨g, 0, none⟩ ∧ g < hi ∧ cs[j]? = some u ∧ w.cell? ⟨g, j, none⟩ = some u := by
  obtain ⟨g, cap, hv, hb, hlt⟩ := h.1.form (by omega)
  injection hv with hA
  subst hA
  have hl : j < cs.length := by have := h.1.1; omega
  refine ⟨g, cs[j], rfl, h.2 g rfl, List.getElem?_eq_getElem hl, ?_⟩
  have := h.1.cells (g := g) rfl j _ (List.getElem?_eq_getElem hl)
  rwa [Addr.add_lit, Nat.zero_add] at this

/-! ### The first loop: copies -/
def WasRel (l : List (Value × List UInt8)) (w : World) (k : Nat) (v : Value) (ws : List (Value × List UInt8)) (wr : World) : Prop :=
  ws.map (·.2) = (l.take k).map (·.2) ∧ OwnC 22 1 wr w.heap.size wr.heap.size v ws.length (ws.map (·.1)) ∧ (∀ p ∈ ws, OwnB wr w.heap.size wr.heap.size p.1 p.2) ∧ Below w.heap.size w wr

theorem WasRel.len {l ws : List (Value × List UInt8)} {w wr : World} {k : Nat} {v : Value} (h : WasRel l w k v ws wr) (hk : k ≤ l.length) : ws.length = k := by
  have := congrArg List.length h.1
  simp at this; omega
theorem WasRel.step {l ws : List (Value × List UInt8)} {w wr w2 w3 : World} {k : Nat} {v v' v3 u : Value} {xs : List UInt8} {t : TypeId} (h : WasRel l w k v ws wr) (hx : l[k]? = some (u, xs))
    (h2 : OwnB w2 wr.heap.size w2.heap.size v' xs) (hb2 : Below wr.heap.size wr w2)
    (h3 : OwnC 22 1 w3 w.heap.size w3.heap.size v3 (ws.length + 1) (ws.map (·.1) ++ [v'])) (hg : (w2.alloc (.cells #[v'] t)).grownBy w3 v.ownBlock) (hb3 : Below w.heap.size (w2.alloc (.cells #[v'] t)) w3) :
    WasRel l w (k + 1) v3 (ws ++ [(v', xs)]) w3 := by
  obtain ⟨h1, hc, hr, hb⟩ := h
  have hs := hb.size
  have hs2 := hb2.size
  have hs3 := hg.size
  simp at hs3
  have hc2 : OwnC 22 1 (w2.alloc (.cells #[v'] t)) w.heap.size wr.heap.size v ws.length (ws.map (·.1)) := (hc.below hb2 (Nat.le_refl _)).alloc hs2 _
  refine ⟨?_, by simpa using h3, ?_, ?_⟩
  · rw [List.map_append, h1, List.take_add_one, hx]
    simp
  · intro p hp
    rcases List.mem_append.1 hp with hp | hp
    · have hp1 := ((hr p hp).below hb2 (Nat.le_refl _)).alloc hs2 (.cells #[v'] t)
      exact (hp1.grown hg (hp1.other hc2 (by decide))).mono (Nat.le_refl _) (by omega)
    · obtain rfl := List.mem_singleton.1 hp
      have hp1 := h2.alloc (Nat.le_refl _) (.cells #[v'] t)
      exact (hp1.grown hg (hp1.other hc2 (by decide))).mono (by omega) (by omega)
  · exact hb.trans ((hb2.mono hs).trans ((Below.alloc (Below.refl _ _) (by omega) _).trans hb3))

/-! ### The second loop: each is gone on with -/
def MoreRel (w1 : World) (lo hi N : Nat) (l : List (Value × List UInt8)) (i : Nat) (v : Value) (ms : List Value) (wr : World) : Prop :=
  ms.length = i ∧ (∀ p ∈ l, OwnB wr lo hi p.1 p.2) ∧ OwnC 22 1 wr N wr.heap.size v i ms ∧
  (∀ j m u xs, ms[j]? = some m → l[j]? = some (u, xs) → OwnB wr lo wr.heap.size m (xs ++ List.replicate 40 (UInt8.ofNat (j + 1))) ∧ (m.ownBlock = u.ownBlock ∨ ∀ q, m.ownBlock = some q → N ≤ q)) ∧
  Below lo w1 wr ∧ (∀ k, hi ≤ k → k < N → wr.heap[k]? = w1.heap[k]?)

theorem MoreRel.start {w1 : World} {lo hi : Nat} {l : List (Value × List UInt8)} (h : ∀ p ∈ l, OwnB w1 lo hi p.1 p.2) : MoreRel w1 lo hi w1.heap.size l 0 (.slice none 0 0) [] w1 :=
  ⟨rfl, h, OwnC.nil_, fun j m u xs hm => by simp at hm, Below.refl _ _, fun _ _ _ => rfl⟩

theorem MoreRel.step {w1 wr w5 w6 : World} {lo hi N i : Nat} {l : List (Value × List UInt8)} {v u g v6 : Value} {ms : List Value} {xs : List UInt8} {t : TypeId}
    (h : MoreRel w1 lo hi N l i v ms wr) (hap : Apart' l) (hx : l[i]? = some (u, xs)) (hlo : lo ≤ hi) (hN : hi ≤ N) (hNw : N ≤ wr.heap.size) (hg5 : GRel wr lo hi u xs (UInt8.ofNat (i + 1)) 40 g w5)
    (h6 : OwnC 22 1 w6 N w6.heap.size v6 (i + 1) (ms ++ [g])) (hg6 : (w5.alloc (.cells #[g] t)).grownBy w6 v.ownBlock) (hb6 : Below N (w5.alloc (.cells #[g] t)) w6) :
    MoreRel w1 lo hi N l (i + 1) v6 (ms ++ [g]) w6 := by
  obtain ⟨hl, hr, hc, hm, hb, hk⟩ := h
  obtain ⟨g1, g2, g3, g4, g5⟩ := hg5
  have hsz := g3.size
  have hs6 := hg6.size
  simp at hs6
  have hu := hr _ (List.mem_of_getElem? hx)
  have hult : ∀ q, u.ownBlock = some q → lo ≤ q ∧ q < hi := fun q hq => hu.lt_ hq
  have hc5 : OwnC 22 1 (w5.alloc (.cells #[g] t)) N wr.heap.size v i ms := by
    refine (hc.grown g3 ?_).alloc hsz _
    intro q hq e
    have a := hc.lt_ hq
    have b := hult q e
    omega
  have hvN : ∀ q, v.ownBlock = some q → N ≤ q ∧ q < wr.heap.size := fun q hq => hc5.lt_ hq
  have toSix : ∀ {p : Value} {a b : Nat} {ys : List UInt8}, OwnB w5 a b p ys → b ≤ w5.heap.size → OwnB w6 a b p ys := by
    intro p a b ys hp hbb
    have hp1 := hp.alloc hbb (.cells #[g] t)
    exact hp1.grown hg6 (hp1.other hc5 (by decide))
  refine ⟨by simp [hl], ?_, by simpa using h6, ?_, ?_, ?_⟩
  · intro p hp
    obtain ⟨j, hj, rfl⟩ := List.getElem_of_mem hp
    have hj' : l[j]? = some l[j] := List.getElem?_eq_getElem hj
    by_cases e : j = i
    · subst e
      rw [hj'] at hx
      injection hx with hx
      rw [hx]
      exact toSix g1 (by omega)
    · exact toSix ((hr _ hp).grown g3 fun q hq e' => (apart_at hap hx hj' (fun h => e h.symm) q e') hq) (by omega)
  · intro j m u' xs' hmj hlj
    by_cases e : j < i
    · rw [List.getElem?_append_left (by omega)] at hmj
      obtain ⟨a1, a2⟩ := hm j m u' xs' hmj hlj
      refine ⟨(toSix (a1.grown g3 ?_) (by omega)).mono (Nat.le_refl _) (by omega), a2⟩
      intro q hq e'
      have b1 := hult q e'
      rcases a2 with a2 | a2
      · exact (apart_at hap hx hlj (by omega) q e') (by rw [← a2]; exact hq)
      · have := a2 q hq; omega
    · have hje : j = i := by
        have := (List.getElem?_eq_some_iff.1 hmj).1
        simp at this; omega
      subst hje
      rw [List.getElem?_append_right (by omega)] at hmj
      simp [hl] at hmj
      subst hmj
      rw [hx] at hlj
      injection hlj with hlj
      injection hlj with e1 e2
      subst e1 e2
      refine ⟨(toSix g2 (Nat.le_refl _)).mono (Nat.le_refl _) (by omega), ?_⟩
      rcases g5 with ⟨q, n, m, c, rfl, rfl⟩ | ⟨rfl, _⟩ | ⟨q, hq, hle⟩
      · exact .inl rfl
      · exact .inl rfl
      · exact .inr fun q' hq' => by rw [hq] at hq'; injection hq' with hq'; omega
  · exact hb.trans (g4.trans ((Below.alloc (Below.refl _ _) (by omega) _).trans (hb6.mono (by omega))))
  · intro k h1 h2
    rw [hg6.block k (by simp; omega) (fun e => by have := hvN k e.symm; omega), Below.heap_alloc _ _ _ (by omega), g3.block k (by omega) (fun e => by have := hult k e.symm; omega)]
    exact hk k h1 h2

theorem GRel.more {w1 wo wr : World} {lo hi N i k : Nat} {l : List (Value × List UInt8)} {v u g : Value} {ms : List Value} {xs : List UInt8} {b : UInt8} {o : Obj}
    (hg : GRel wo lo hi u xs b k g wr) (h : MoreRel w1 lo hi N l i v ms wo) (hx : l[i]? = some (u, xs)) (hN : hi ≤ N) : OwnC 22 1 (wr.alloc o) N wo.heap.size v i ms := by
  refine (h.2.2.1.grown hg.2.2.1 ?_).alloc hg.2.2.1.size _
  intro q hq e
  have a := h.2.2.1.lt_ hq
  have b := (h.2.1 _ (List.mem_of_getElem? hx)).lt_ e
  omega

/-! ### The last loop: each is written over -/
def LastRel (w1 : World) (lo hi N : Nat) (l : List (Value × List UInt8)) (i : Nat) (wr : World) : Prop :=
  (∀ j p, i ≤ j → l[j]? = some p → OwnB wr lo hi p.1 p.2) ∧ Below lo w1 wr ∧ (∀ k, hi ≤ k → k < N → wr.heap[k]? = w1.heap[k]?)
theorem MoreRel.last {w1 wr : World} {lo hi N i : Nat} {l : List (Value × List UInt8)} {v : Value} {ms : List Value} (h : MoreRel w1 lo hi N l i v ms wr) : LastRel w1 lo hi N l 0 wr :=
  ⟨fun j p _ hp => h.2.1 p (List.mem_of_getElem? hp), h.2.2.2.2.1, h.2.2.2.2.2⟩
theorem LastRel.succ {w1 wr : World} {lo hi N i : Nat} {l : List (Value × List UInt8)} (h : LastRel w1 lo hi N l i wr) : LastRel w1 lo hi N l (i + 1) wr :=
  ⟨fun j p hj hp => h.1 j p (by omega) hp, h.2⟩

/-- Within a round: the one written over has some bytes or other. -/
def PutRel (w1 : World) (lo hi N : Nat) (l : List (Value × List UInt8)) (i : Nat) (v : Value) (n : Nat) (wr : World) : Prop :=
  (∃ ys : List UInt8, ys.length = n ∧ OwnB wr lo hi v ys) ∧ LastRel w1 lo hi N l (i + 1) wr
theorem LastRel.put {w1 wr : World} {lo hi N i n : Nat} {l : List (Value × List UInt8)} {v : Value} {xs : List UInt8} (h : LastRel w1 lo hi N l i wr) (hx : l[i]? = some (v, xs)) (hn : xs.length = n) : PutRel w1 lo hi N l i v n wr :=
  ⟨⟨xs, hn, h.1 i _ (Nat.le_refl _) hx⟩, h.succ⟩
theorem PutRel.store {w1 wr : World} {lo hi N i n g c k : Nat} {l : List (Value × List UInt8)} {xs : List UInt8} (h : PutRel w1 lo hi N l i (.slice (some ⟨g, 0, none⟩) n c) n wr) (hap : Apart' l)
    (hx : l[i]? = some (.slice (some ⟨g, 0, none⟩) n c, xs)) (hlo : lo ≤ hi) (x : UInt8) : PutRel w1 lo hi N l i (.slice (some ⟨g, 0, none⟩) n c) n (wr.setCell ⟨g, k, none⟩ (.int .u8 (x.toNat : Int))) := by
  obtain ⟨⟨ys, hy, ho⟩, h1, h2, h3⟩ := h
  have hlt := ho.lt_ (q := g) rfl
  refine ⟨⟨ys.set k x, by simpa using hy, ho.stored hy k x⟩, ?_, ?_, ?_⟩
  · intro j p hj hp
    refine (h1 j p hj hp).grown (grownBy_store (World.grownBy.refl wr (some g)) k _) ?_
    intro q hq e
    exact apart_at hap hx hp (by omega) q (by rw [← e]; rfl) hq
  · exact h2.setCell hlt.1 _
  · intro k' a b
    exact (Below.heap_setCell wr _ _ k' (by simp; omega)).trans (h3 k' a b)
theorem PutRel.get {w1 wr : World} {lo hi N i n g c k : Nat} {l : List (Value × List UInt8)} (h : PutRel w1 lo hi N l i (.slice (some ⟨g, 0, none⟩) n c) n wr) (hk : k < n) :
    ∃ x : UInt8, wr.cell? ⟨g, k, none⟩ = some (.int .u8 (x.toNat : Int)) ∧ wr.frozen? ⟨g, k, none⟩ = false := by
  obtain ⟨⟨ys, hy, ho⟩, _⟩ := h
  obtain ⟨x, _, hx⟩ := ho.cellAt hy hk
  subst hy
  exact ⟨x, hx, ho.1.frozenAt k⟩

theorem OwnC.drewN {e : TypeId} {size n : Nat} {w : World} {lo hi : Nat} {v : Value} {cs : List Value} (h : OwnC e size w lo hi v n cs) (k : Nat) : OwnC e size (w.drewN k) lo hi v n cs := h.keep fun _ _ _ => rfl
theorem MoreRel.drewN {w1 wr : World} {lo hi N i : Nat} {l : List (Value × List UInt8)} {v : Value} {ms : List Value} (h : MoreRel w1 lo hi N l i v ms wr) (k : Nat) : MoreRel w1 lo hi N l i v ms (wr.drewN k) :=
  ⟨h.1, fun p hp => (h.2.1 p hp).drewN k, h.2.2.1.drewN k, fun j m u xs a b => ⟨(h.2.2.2.1 j m u xs a b).1.drewN k, (h.2.2.2.1 j m u xs a b).2⟩, below_drewN h.2.2.2.2.1 k, h.2.2.2.2.2⟩
theorem LastRel.drewN {w1 wr : World} {lo hi N i : Nat} {l : List (Value × List UInt8)} (h : LastRel w1 lo hi N l i wr) (k : Nat) : LastRel w1 lo hi N l i (wr.drewN k) :=
  ⟨fun j p a b => (h.1 j p a b).drewN k, below_drewN h.2.1 k, h.2.2⟩
theorem PutRel.drewN {w1 wr : World} {lo hi N i n : Nat} {l : List (Value × List UInt8)} {v : Value} (h : PutRel w1 lo hi N l i v n wr) (k : Nat) : PutRel w1 lo hi N l i v n (wr.drewN k) := by
  obtain ⟨⟨ys, a, b⟩, c⟩ := h
  exact ⟨⟨ys, a, b.drewN k⟩, c.drewN k⟩

/-- The copy of a row, later on. -/
theorem WasRel.part {l ws : List (Value × List UInt8)} {w w1 wr : World} {hi n cw k : Nat} {Aw : Option Addr} {u : Value} {xs : List UInt8} (h : WasRel l w n (.slice Aw n cw) ws w1) (hx : l[k]? = some (u, xs)) (hl : l.length = n) (hk : k < n)
    (hhi : hi ≤ w.heap.size) (hkeep : ∀ k, hi ≤ k → k < w1.heap.size → wr.heap[k]? = w1.heap[k]?) :
    ∃ gw A2 n2 c2, Aw = some ⟨gw, 0, none⟩ ∧ wr.cell? ⟨gw, k, none⟩ = some (.slice A2 n2 c2) ∧ Rd wr w1.heap.size A2 n2 c2 xs := by
  have hwl := h.len (by omega)
  obtain ⟨h1, hc, hr, hb⟩ := h
  rw [hwl] at hc
  have hc' := hc.keep fun k a b => hkeep k (by omega) b
  obtain ⟨gw, u', rfl, hg, hu, hcell⟩ := hc'.one hk
  have hk' : ws[k]? = some (ws[k]'(by omega)) := List.getElem?_eq_getElem (by omega)
  have hm := List.getElem_mem (l := ws) (n := k) (by omega)
  have ho := (hr _ hm).keep fun k a b => hkeep k (by omega) b
  have e2 : (ws[k]'(by omega)).2 = xs := by
    have := congrArg (fun z => z[k]?) h1
    simp only [List.getElem?_map, hk', Option.map_some, List.getElem?_take, if_pos hk, hx, Option.some.injEq] at this
    exact this
  have e1 : (ws[k]'(by omega)).1 = u' := by simpa [hk'] using hu
  rw [e1, e2] at ho
  obtain ⟨A2, n2, c2, rfl, hrd⟩ := ho.rd
  exact ⟨gw, A2, n2, c2, rfl, hcell, hrd⟩

/-- The one that is gone on with, later on. -/
theorem MoreRel.part {w1 wr : World} {lo hi N n n' cm k : Nat} {l : List (Value × List UInt8)} {Am : Option Addr} {ms : List Value} {u : Value} {xs : List UInt8} (h : MoreRel w1 lo hi N l n (.slice Am n cm) ms wr) (hx : l[k]? = some (u, xs)) (hk : k < n) (hn : xs.length = n') :
    ∃ gm q c2, Am = some ⟨gm, 0, none⟩ ∧ wr.cell? ⟨gm, k, none⟩ = some (.slice (some ⟨q, 0, none⟩) (n' + 40) c2) ∧ ∀ j, j < 40 → wr.cell? ⟨q, n' + j, none⟩ = some (.int .u8 (((k : Int) + 1) % 256)) := by
  obtain ⟨hl, hr, hc, hm, hb, hkp⟩ := h
  obtain ⟨gm, m, rfl, hg, hu, hcell⟩ := hc.one hk
  obtain ⟨ho, _⟩ := hm k m u xs hu hx
  have hlen : (xs ++ List.replicate 40 (UInt8.ofNat (k + 1))).length = n' + 40 := by simp [hn]
  obtain ⟨q, c2, hv, _, _⟩ := ho.1.form (by omega)
  rw [hlen] at hv
  subst hv
  refine ⟨gm, q, c2, rfl, hcell, fun j hj => ?_⟩
  obtain ⟨x, hx', hcx⟩ := ho.cellAt hlen (j := n' + j) (by omega)
  rw [hcx]
  rw [List.getElem?_append_right (by omega), hn, Nat.add_sub_cancel_left] at hx'
  simp only [List.getElem?_replicate, if_pos hj, Option.some.injEq] at hx'
  subst hx'
  rw [UInt8.toNat_ofNat']
  have h : ((k : Int) + 1) % 256 = (((k + 1) % 2 ^ 8 : Nat) : Int) := by omega
  rw [h]
theorem eqbytes_same (A A' : Option Addr) (n c n' c' : Nat) (xs : List UInt8) (B B' : Nat) (w : World) (h : Rd w B A n c xs) (h' : Rd w B' A' n' c' xs) :
    Calls Tryd.prog 21 #[.slice A n c, .slice A' n' c'] w fun e w' => e = .returned (.bool true) ∧ w' = w := by
  have := eqbytes_any A A' n c n' c' xs xs B B' w h h'
  rw [eqB_self] at this
  exact this
theorem u8_succ (x : UInt8) : ((x.toNat : Int) + 1) % 256 = ((x + 1).toNat : Int) := by
  rw [UInt8.toNat_add]
  simp
end Go.Proofs.YtlfajfmkljnodaaDoor
