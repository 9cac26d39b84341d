/- The contract of the law's put. -/
import Derived.Test.YtmnekhliblkibaaElms
import Derived.Deep.RegionHeld3
import Derived.Deep.RegionHeld2
import Derived.Deep.RegionHeld
namespace Go.Proofs.Ytmnekhliblkibaa
open Go.RowKit
set_option maxRecDepth 1000000
set_option linter.unusedVariables false
set_option linter.unusedSimpArgs false

theorem Kase.come.up {k : Kase} {w w' : World} {A0 A1 A2 : Option Addr} {n0 c0 n1 c1 n2 c2 : Nat} (h : k.come w A0 A1 A2 n0 c0 n1 c1 n2 c2) (hb : Below w.heap.size w w') : k.come w' A0 A1 A2 n0 c0 n1 c1 n2 c2 :=
  ⟨h.r0.up hb, h.r1.up hb, h.r2.up hb, h.iss, h.sub, h.from_, h.to, h.e, h.path, h.usage⟩
/-- One of the rows is another one. -/
theorem XS.put {w : World} {lo g n c : Nat} {l : List (Value × List UInt8)} {v : Value} {xs : List UInt8} (h : XS w lo (.slice (some ⟨g, 0, none⟩) n c) l) (i : Nat) (hv : RdT w v xs) :
    XS (w.setCell ⟨g, i, none⟩ v) lo (.slice (some ⟨g, 0, none⟩) n c) (l.set i (v, xs)) := by
  obtain ⟨⟨h1, h2⟩, h3⟩ := h
  obtain ⟨h4, ⟨e, _⟩ | ⟨g', cap, cur, e, hb, hg, hn, hm, hs, ht⟩⟩ := h1
  · cases e
  injection e with e1 e2 e3
  injection e1 with e1
  injection e1 with e1
  subst e1 e3
  have hB : Blk w g 22 cur := hg
  have hlt := hB.lt
  have hkeep : ∀ (g' : Nat) (cs : Array Value) (fr : Nat × Nat), w.heap[g']? = some (Obj.cells cs 5 fr) → (w.setCell ⟨g, i, none⟩ v).heap[g']? = w.heap[g']? := fun g' cs fr hg' =>
    Below.heap_setCell _ _ _ _ (fun e => by
      have e : g' = g := e
      subst e
      rw [hg] at hg'
      injection hg' with hg'
      injection hg' with _ ht2 _
      exact absurd ht2 (by decide))
  refine ⟨⟨⟨by simp, .inr ⟨g, c, cur.setIfInBounds i v, ?_, hb, hB.set_ i v, ?_, hm, by simpa using hs, ?_⟩⟩, ?_⟩, ?_⟩
  · simp only [List.length_set]
    rw [← e2]
  · simp only [List.length_set]
    exact hn
  · rw [Array.toList_setIfInBounds, List.length_set, Nat.mul_one, List.take_set]
    rw [Nat.mul_one] at ht
    rw [ht, List.map_set]
  · intro k hk
    have := h2 k hk
    simpa using this
  · intro p hp
    have hsz : w.heap.size ≤ (w.setCell ⟨g, i, none⟩ v).heap.size := by simp
    rcases List.mem_or_eq_of_mem_set hp with hp | rfl
    · exact (h3 p hp).keep hsz hkeep
    · exact hv.keep hsz hkeep
theorem XS.spot {w : World} {lo n c : Nat} {A : Option Addr} {l : List (Value × List UInt8)} (h : XS w lo (.slice A n c) l) (hn : 0 < n) : ∃ g, A = some ⟨g, 0, none⟩ ∧ lo ≤ g ∧ g < w.heap.size ∧ l.length = n ∧
    ∀ i, i < n → (∃ v, w.cell? ⟨g, i, none⟩ = some v) ∧ w.frozen? ⟨g, i, none⟩ = false := by
  obtain ⟨⟨h1, h2⟩, h3⟩ := h
  obtain ⟨h4, ⟨e, e0⟩ | ⟨g', cap, cur, e, hb, hg, hn', hm, hs, ht⟩⟩ := h1
  · injection e with e1 e2 e3; omega
  injection e with e1 e2 e3
  subst e1 e2 e3
  have hB : Blk w g' 22 cur := hg
  refine ⟨g', rfl, hb, hB.lt, rfl, fun i hi => ⟨⟨cur[i]'(by omega), ?_⟩, hB.frozen i⟩⟩
  rw [hB.cell i]
  exact Array.getElem?_eq_getElem _
theorem els_cat (k : Kase) (hp : k.path < 256) : ((k.els.map (·.2.2)).flatten).length ≤ 4000 := (els_wf k hp).2
theorem cat_set : ∀ (l : List (List UInt8)) (i : Nat) (xs : List UInt8), ((l.set i xs).flatten).length ≤ l.flatten.length + xs.length
  | [], i, xs => by simp
  | y :: l, 0, xs => by simp; omega
  | y :: l, i + 1, xs => by
    have := cat_set l i xs
    simp only [List.set_cons_succ, List.flatten_cons, List.length_append]
    omega
theorem run_index7 (W : World) (g i c : Nat) (hi7 : (i : Int) < 7) : (Instr.indexAt 39 (.slice (some ⟨g, 0, none⟩) 7 c) (.int .i64 (i : Int))).run Try.prog W = .ok (.pointer (some ⟨g, i, none⟩)) W := by
  simp [go_sem, hi7]
set_option maxHeartbeats 8000000 in
theorem put_any (k : Kase) (A0 A1 A2 : Option Addr) (n0 c0 n1 c1 n2 c2 : Nat) (w : World) (hk : k.come w A0 A1 A2 n0 c0 n1 c1 n2 c2) (i : Nat) (hi : i < 7) (Ae : Option Addr) (ne ce : Nat) (xs : List UInt8) (he : RdT w (.slice Ae ne ce) xs) (hne : xs.length ≤ 1000000) :
    Calls Try.prog 34 #[k.val (.slice A0 n0 c0) (.slice A1 n1 c1) (.slice A2 n2 c2), .int .i64 (i : Int), .slice Ae ne ce] w (RetOwn (Ref.wr (Ref.seq ((k.els.map (·.2.2)).set i xs)) (k.sig.take 100)) w) := by
  have hKB : Blk (w.alloc (.cells (k.row (.slice A0 n0 c0) (.slice A1 n1 c1) (.slice A2 n2 c2)) 42)) w.heap.size 42 (k.row (.slice A0 n0 c0) (.slice A1 n1 c1) (.slice A2 n2 c2)) := Blk.new w _ _
  have hb01 : Below w.heap.size w (w.alloc (.cells (k.row (.slice A0 n0 c0) (.slice A1 n1 c1) (.slice A2 n2 c2)) 42)) := (Below.refl _ w).alloc (Nat.le_refl _) _
  have HE := elements_any k A0 A1 A2 n0 c0 n1 c1 n2 c2 _ (hk.up hb01)
  have he1 := he.below hb01
  have hcat := els_cat k hk.path
  have HK := Lib.hid (And.intro hk (And.intro he1 (And.intro hb01 hcat)))
  clear hk he he1 hb01 hcat

  have hi7 : (i : Int) < 7 := by omega
  obtain ⟨KV, hKV⟩ : ∃ KV, KV = k.val (.slice A0 n0 c0) (.slice A1 n1 c1) (.slice A2 n2 c2) := ⟨_, rfl⟩
  have hKV2 : KV = Value.agg (k.row (.slice A0 n0 c0) (.slice A1 n1 c1) (.slice A2 n2 c2)) := hKV
  rw [← hKV]
  clear hKV
  subst hKV2
  go_enter Try.func34, Try.ntmps34
  go_wp2_with (first
    | ((with_reducible refine at_load_case ?_); refine wpList_load_case rfl _ rfl w.heap.size k (.slice A0 n0 c0) (.slice A1 n1 c1) (.slice A2 n2 c2) rfl hKB ?_)
    | fail)
  refine HE.mono ?_
  clear HE
  rintro en w1 ⟨A, c, l, rfl, hX, hlm, hb1⟩
  dsimp only
  obtain ⟨g, rfl, hgl, hgw, hll, hcells⟩ := hX.spot (by omega)
  obtain ⟨⟨vi, hvi⟩, hfi⟩ := hcells i hi
  have hB1 := hKB.below hb1 (by simp)
  have hX2 := hX.put i (HK.out.2.1.below hb1)
  have hgne : w.heap.size ≠ g := by simp only [World.size_alloc] at hgl; omega
  have hB2 := Blk.far hB1 (p := ⟨g, i, none⟩) hgne (.slice Ae ne ce)
  have hbw1 : Below w.heap.size w w1 := HK.out.2.2.1.trans (hb1.mono (by simp))
  have hs1 := hbw1.size
  have hbw2 : Below w.heap.size w (w1.setCell ⟨g, i, none⟩ (.slice Ae ne ce)) := hbw1.setCell (by simp only [World.size_alloc] at hgl; show w.heap.size ≤ g; omega) _
  obtain ⟨w2, hw2⟩ : ∃ w2, w2 = w1.setCell ⟨g, i, none⟩ (.slice Ae ne ce) := ⟨_, rfl⟩
  rw [← hw2] at hX2 hB2 hbw2
  have k2 : w2.cell? ⟨w.heap.size, 2, none⟩ = some (.slice A2 n2 c2) := hB2.cell 2
  have hmap : (l.set i (Value.slice Ae ne ce, xs)).map (·.2) = (k.els.map (·.2.2)).set i xs := by
    rw [List.map_set, hlm]
  have hr2 := HK.out.1.r2.up hbw2
  have hsz2 : w.heap.size < w2.heap.size := hB2.lt
  obtain ⟨Av, cv, e9, hrdl⟩ := hX2.rdl
  have hl9 : (l.set i (Value.slice Ae ne ce, xs)).length = 7 := by rw [List.length_set]; exact hll
  injection e9 with e91 e92 e93
  subst e91 e93
  rw [hl9] at hrdl
  have HSeq : ∀ W, Below w2.heap.size w2 W → Calls Try.prog 33 #[.slice (some ⟨g, 0, none⟩) 7 c] W (RetOwn (Ref.seq ((k.els.map (·.2.2)).set i xs)) W) := fun W hW => by
    have h := refSeq_any _ _ _ _ W (hrdl.up hW) (by omega) (by unfold cat; rw [hmap]; have := cat_set (k.els.map (·.2.2)) i xs; have := HK.out.2.2.2; omega)
    rwa [hmap] at h
  have HShort : ∀ W, Below w2.heap.size w2 W → Calls Try.prog 51 #[.slice A2 n2 c2, .int .i64 100] W (RetOwn (k.sig.take 100) W) := fun W hW =>
    short_any 100 A2 n2 c2 k.sig W (hr2.up hW) (by omega) (by have h1 := hr2.cap; have h2 := hr2.capm; omega)
  have hlx : (Ref.seq ((k.els.map (·.2.2)).set i xs)).length ≤ 100000000 := by
    unfold Ref.seq
    have h1 := cat_set (k.els.map (·.2.2)) i xs
    have h2 := HK.out.2.2.2
    have h3 := write_lt 48 ((k.els.map (·.2.2)).set i xs).flatten 10000000 (by omega) (by omega)
    omega
  have H2 := Lib.hid (And.intro HSeq (And.intro HShort (And.intro hlx hbw2)))
  clear HSeq HShort hlx
  clear hX hX2 hB1 hB2 hbw1 hbw2 hrdl hmap hr2 hcells hlm hb1 hKB
  clear e92
  go_upto_region 3 with fail
  rw [← hw2]
  clear hw2 hvi hfi
  go_region_held2 (fun w' => w'.cell? ⟨w.heap.size, 2, none⟩ = some (.slice A2 n2 c2)) (first | go_keep)
    (first
      | (go_at_call 33; ((with_reducible refine (H2.out.1 _ (Below.refl _ _).drew).mono ?_); rintro en w3 ⟨A3, n3, c3, rfl, ho3, hb3⟩); have hb3' : Below w2.heap.size w2 w3 := Below.trans (by (repeat (first | exact Below.refl _ _ | assumption | (refine Below.setCell ?_ (by first | omega | (simp; done) | (simp; omega)) _) | (refine Below.alloc ?_ (by first | omega | (simp; done) | (simp; omega)) _) | (refine below_drewN ?_ _) | (refine Below.drew ?_)))) (hb3.mono (Nat.le_refl _)); have k2_3 : w3.cell? ⟨w.heap.size, 2, none⟩ = some (.slice A2 n2 c2) := (hb3'.cell (p := ⟨w.heap.size, 2, none⟩) hsz2).trans k2; have H3 := Lib.hid (And.intro ho3 hb3'); clear ho3 hb3 hb3')
      | (go_at_call 51; ((with_reducible refine (H2.out.2.1 _ H3.out.2).mono ?_); rintro en w4 ⟨A4, n4, c4, rfl, ho4, hb4⟩); have k2_4 : w4.cell? ⟨w.heap.size, 2, none⟩ = some (.slice A2 n2 c2) := (hb4.cell (p := ⟨w.heap.size, 2, none⟩) (by have := H3.out.2.size; show w.heap.size < w3.heap.size; omega)).trans k2_3; have H4 := Lib.hid (And.intro ho4 hb4); clear ho4 hb4)
      | (go_at_call 23; ((with_reducible refine (refWr_any A3 A4 n3 c3 n4 c4 _ _ _ (H3.out.1.rdx.up H4.out.2) H4.out.1.rdx (by have h1 := ownB_len H3.out.1; have h2 := H2.out.2.2.1; omega) (by have h1 := ownB_len H4.out.1; rw [List.length_take] at h1; omega)).mono ?_); rintro en w5 ⟨A5, n5, c5, rfl, ho5, hb5⟩); have k2_5 : w5.cell? ⟨w.heap.size, 2, none⟩ = some (.slice A2 n2 c2) := (hb5.cell (p := ⟨w.heap.size, 2, none⟩) (by have := H3.out.2.size; have := H4.out.2.size; show w.heap.size < w4.heap.size; omega)).trans k2_4; have H5 := Lib.hid (And.intro ho5 hb5); clear ho5 hb5))
  go_wp2
  go_ret
  have h3 := H2.out.2.2.2.trans (H3.out.2.mono H2.out.2.2.2.size)
  have h4 := h3.trans (H4.out.2.mono h3.size)
  have h5 := h4.trans (H5.out.2.mono h4.size)
  exact ⟨A5, n5, c5, rfl, H5.out.1.mono h4.size (Nat.le_refl _), h5⟩
end Go.Proofs.Ytmnekhliblkibaa
