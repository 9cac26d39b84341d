/- The contracts of der.Set and of the reference's Set. -/
import Derived.Test.YtnfngnmajjkdbaaDoorAlls1
namespace Go.Proofs.YtnfngnmajjkdbaaDoor
open Go.RowKit Go.Shelf
attribute [local go_sem] Oper.semAt_some
set_option maxRecDepth 100000
set_option linter.unusedVariables false
set_option linter.unusedSimpArgs false

def SetPost (b : Bool) (w : World) (e : Ending) (w' : World) : Prop := e = .returned (.bool b) ∧ Below w.heap.size w w'
theorem set_mk {v V : Bool} (h : v = V) {w w' : World} (hb : Below w.heap.size w w') : SetPost V w (.returned (.bool v)) w' := by subst h; exact ⟨rfl, hb⟩

/-- What Set's rounds keep. -/
def SetI (w : World) (pre : List Item) (W : World) : Prop :=
  Below w.heap.size w W ∧ Blk W w.heap.size 4 #[.bool false] ∧ ∃ v last, Blk W (w.heap.size + 1) 22 #[v] ∧ RdV w w.heap.size v last ∧ (∀ tl, Der.chain [] (pre.map (·.dat) ++ tl) = Der.chain last tl) ∧ w.heap.size + 3 ≤ W.heap.size
theorem SetI.own (w : World) (Bn N : Nat) (h1 : w.heap.size + 2 ≤ Bn) (h2 : w.heap.size ≤ N) : OwnX Bn N (SetI w) := by
  rintro s X Y row ⟨hb, he, v, last, hv, hr, hc, hz⟩ hg hrow
  exact ⟨OwnX.below (β := Unit) (by omega) h2 (Nat.le_refl _) () X Y row hb hg hrow, OwnX.blk (β := Unit) _ (fun _ => _) (by omega) () X Y row he hg hrow, v, last, OwnX.blk (β := Unit) _ (fun _ => #[v]) (by omega) () X Y row hv hg hrow, hr, hc, Nat.le_trans hz hg.size⟩
theorem SetI.put {w W : World} {pre : List Item} (h : SetI w pre W) {D : Nat} {o : Obj} (o' : Obj) (hD : W.heap[D]? = some o) (ho : o.isCells = false) (hge : w.heap.size ≤ D) : SetI w pre (W.putObj D o') := by
  obtain ⟨hb, he, v, last, hv, hr, hc, hz⟩ := h
  have hg := grownBy_putObj' W D o'
  have key : ∀ {g : Nat} {t : TypeId} {cs : Array Value}, Blk W g t cs → Blk (W.putObj D o') g t cs := fun hb => hb.grown hg (fun e => by
    injection e with e; subst e; unfold Blk at hb; rw [hb] at hD; cases hD; cases ho)
  exact ⟨hb.grown hg hb.size (fun k e => by injection e with e; omega), key he, v, last, key hv, hr, hc, Nat.le_trans hz hg.size⟩

set_option maxHeartbeats 2000000 in
theorem set_any (A1 : Option Addr) (n1 c1 : Nat) (xs : List UInt8) (w : World) (h1 : Rd w w.heap.size A1 n1 c1 xs) :
    Calls Tryd.prog 16 #[.slice A1 n1 c1] w (SetPost (Der.chain [] (Der.seq xs)) w) := by
  obtain ⟨V, hV⟩ : ∃ V, Der.chain [] (Der.seq xs) = V := ⟨_, rfl⟩
  rw [hV]
  have HV := Lib.hid hV
  clear hV
  refine (callsIn_wide (n := 5)).1 ?_
  refine callsIn_of_wp_marks Tryd.func16 rfl trivial ?_ rfl
  simp only [Tryd.ntmps16, List.size_toArray, List.length_cons, List.length_nil, Nat.reduceAdd, Nat.reduceSub, Array.replicate_succ, Array.replicate_zero, List.push_toArray, List.append_toArray, List.nil_append, List.cons_append]
  have hB0 := (Blk.new w 4 #[.bool false]).alloc (.cells #[.slice none 0 0] 22)
  have hB1 := Blk.new (w.alloc (.cells #[.bool false] 4)) 22 #[.slice none 0 0]
  simp only [World.size_alloc] at hB1
  gi_wp2_with fail
  refine ⟨trivial, (callsIn_wide.2 (each_any A1 n1 c1 _)).mono ?_⟩
  rintro e w1 ⟨rfl, hb1, hBn, hz1⟩
  simp only [World.size_alloc] at hb1 hBn hz1
  have hbw1 : Below w.heap.size w w1 := Below.trans (by (repeat (first | exact Below.refl _ _ | assumption | (refine Below.setCell ?_ (by first | omega | (simp; done) | (simp; omega)) _) | (refine Below.alloc ?_ (by first | omega | (simp; done) | (simp; omega)) _) | (refine below_drewN ?_ _) | (refine Below.drew ?_)))) (hb1.mono (by omega))
  have hB0' := hB0.below hb1 (by omega)
  have hB1' := hB1.below hb1 (by omega)
  clear hb1 hB0 hB1
  have hI0 : SetI w [] w1 := ⟨hbw1, hB0', _, [], hB1', RdV.mk Rd.none_, fun tl => rfl, by omega⟩
  have hs1 : w1.heap.size = w.heap.size + 3 := by omega
  have HN := Lib.hid hBn
  clear hB1' hBn hz1 hB0'
  gi_wp2_with fail
  refine range_each (by omega) (w.heap.size + 2) rfl rfl w.heap.size w A1 n1 c1 xs HN.out h1
    (fun pre W => SetI w pre W)
    (fun c pre W => c = .ret ∧ Der.chain [] (Der.seq xs) = false ∧ Below w.heap.size w W ∧ Blk W w.heap.size 4 #[.bool false])
    (SetI.own _ _ _ (by omega) (by omega)) (fun c => (OwnX.pure_ _ _ _).and ((OwnX.pure_ _ _ _).and ((OwnX.below (by omega) (by omega) (Nat.le_refl _)).and (OwnX.blk _ _ (by omega)))))
    (fun s X h => ⟨h.1, h.1.size⟩) hI0
    (fun x a' W => ∃ Bx, (∃ u0 u1 u6 u7 u8 u9 u10 u11 u12 u13 u14 u15 u16 u17 u18 u19 u20 : Value, a' = { tmps := #[u0, u1, .pointer (some ⟨w.heap.size, 0, none⟩), .pointer (some ⟨w.heap.size + 1, 0, none⟩), .pointer (some ⟨Bx, 0, none⟩), .bool x.ok, u6, u7, u8, u9, u10, u11, u12, u13, u14, u15, u16, u17, u18, u19, u20], defers := [] }) ∧ (w.heap.size + 3 ≤ Bx ∧ ∃ cs, x.v = .agg cs ∧ Blk W Bx 30 cs)) ?hAx ?assign ?body ?done ?stop
  case hAx =>
    rintro x a' s X Y row ⟨Bx, hx, h3, cs, e, hb⟩ hg hr
    exact ⟨Bx, hx, h3, cs, e, OwnX.blk (β := Unit) 30 (fun _ => cs) (by omega) () X Y row hb hg hr⟩
  case assign =>
    intro l pre x W' K hi hg hK'
    have hfin : ∀ cs, x.v = .agg cs → KeepsFrom w1.heap.size W' (W'.alloc (.cells cs 30)) ∧ (W'.alloc (.cells cs 30)).heap[w.heap.size + 2]? = W'.heap[w.heap.size + 2]? ∧
        SetI w pre (W'.alloc (.cells cs 30)) ∧
        (w.heap.size + 3 ≤ W'.heap.size ∧ ∃ cs', x.v = .agg cs' ∧ Blk (W'.alloc (.cells cs 30)) W'.heap.size 30 cs') := by
      intro cs hcs
      obtain ⟨hb, he, v, last, hv, hr, hc, hz⟩ := hi
      have hsz := hb.size
      exact ⟨(KeepsOthers.alloc _ _).from _, Below.heap_alloc _ _ _ (by omega), ⟨hb.alloc (by omega) _, he.alloc _, v, last, hv.alloc _, hr, hc, by simp; omega⟩, by omega, cs, hcs, Blk.new _ _ _⟩
    rcases hg with ⟨_, hxv, hxo⟩ | ⟨t', b', r', A4, n4, c4, A5, n5, c5, _, hxv, hxo, _, _⟩
    · have HF := Lib.hid (hfin _ hxv)
      rw [hxv]
      have HXO := Lib.hid hxo
      clear hfin hxv hi
      gi_wp2
      exact hK' _ _ HF.out.1 HF.out.2.1 HF.out.2.2.1 ⟨W'.heap.size, by rw [HXO.out]; exact ⟨_, _, _, _, _, _, _, _, _, _, _, _, _, _, _, _, _, rfl⟩, HF.out.2.2.2⟩
    · have HF := Lib.hid (hfin _ hxv)
      rw [hxv]
      have HXO := Lib.hid hxo
      clear hfin hxv hi
      gi_wp2
      exact hK' _ _ HF.out.1 HF.out.2.1 HF.out.2.2.1 ⟨W'.heap.size, by rw [HXO.out]; exact ⟨_, _, _, _, _, _, _, _, _, _, _, _, _, _, _, _, _, rfl⟩, HF.out.2.2.2⟩
  case body =>
    rintro l pre x a' W hlN ⟨r, hr⟩ ⟨hb, he, v, last, hv, hrl, hch, hsz3⟩ ⟨Bx, ⟨u0, u1, u6, u7, u8, u9, u10, u11, u12, u13, u14, u15, u16, u17, u18, u19, u20, rfl⟩, h3, cs, hcs, hBlk⟩ hg ⟨tl, htl⟩
    obtain ⟨hcv, hfv⟩ := hv.facts
    obtain ⟨hce, hfe⟩ := he.facts
    have hvl := hv.lt
    have hel := he.lt
    rcases hg with ⟨hxd, hxv, hxo⟩ | ⟨t', b', r', A4, n4, c4, A5, n5, c5, hxd, hxv, hxo, hr4, hr5⟩
    · have hno : Der.chain [] (Der.seq xs) = false := by
        rw [htl, List.map_append, List.append_assoc, hch, List.map_cons, hxd]
        rfl
      have HO := Lib.hid (And.intro hb (And.intro he (And.intro hno hxo)))
      clear hb he hv hch hr htl hcs hBlk hxd hxv hno
      gi_wp2_with fail
      refine ⟨trivial, ?_⟩
      gi_wp2
      refine ⟨(KeepsOthers.setCell _ _ _).from _, rfl, HO.out.2.2.1, HO.out.1.setCell (by simp) _, ?_⟩
      simpa using HO.out.2.1.set_ 0 (.bool false)
    · obtain rfl : cs = #[.int .u8 (t'.toNat : Int), .slice A4 n4 c4, .slice A5 n5 c5] := by rw [hxv] at hcs; injection hcs with hcs; exact hcs.symm
      obtain ⟨hcx, hfx⟩ := hBlk.facts
      obtain ⟨A6, n6, c6, rfl, hr6⟩ := hrl
      have hstep : ∀ tl', Der.chain [] ((pre ++ [x]).map (·.dat) ++ tl') = (!Op.bytesLess r' last && Der.chain r' tl') := by
        intro tl'
        rw [List.map_append, List.append_assoc, hch, List.map_cons, hxd]
        rfl
      have HX := Lib.hid (And.intro hb (And.intro he (And.intro hv (And.intro hr5 (And.intro hr6 (And.intro hstep htl))))))
      clear hb he hv hch hr htl hcs hBlk hxd hxv hr4 hr5 hr6 hstep
      gi_wp2_with fail
      refine ⟨trivial, (CallsIn.inRound l (callsIn_wide.2 (compare_any A6 A5 n6 c6 n5 c5 last r' _ _ W (HX.out.2.2.2.2.1.below HX.out.1) (HX.out.2.2.2.1.below HX.out.1)))).mono ?_⟩
      rintro e W ⟨rfl, rfl⟩
      have hli := less_iff last r'
      obtain ⟨z, hz⟩ : ∃ z, Lib.compareBytes last r' = z := ⟨_, rfl⟩
      rw [hz] at hli ⊢
      by_cases hzp : 0 < z
      · rw [decide_eq_true hzp] at hli
        have hno : Der.chain [] (Der.seq xs) = false := by rw [HX.out.2.2.2.2.2.2, HX.out.2.2.2.2.2.1, hli]; rfl
        have HO := Lib.hid hno
        clear hno hli hz
        gi_wp2
        refine ⟨(KeepsOthers.setCell _ _ _).from _, rfl, HO.out, HX.out.1.setCell (by simp) _, ?_⟩
        simpa using HX.out.2.1.set_ 0 (.bool false)
      · rw [decide_eq_false hzp] at hli
        have hyes : ∀ tl', Der.chain [] ((pre ++ [x]).map (·.dat) ++ tl') = Der.chain r' tl' := fun tl' => by rw [HX.out.2.2.2.2.2.1, hli]; rfl
        have HO := Lib.hid hyes
        clear hyes hli hz
        gi_wp2
        refine ⟨(KeepsOthers.setCell _ _ _).from _, Below.heap_setCell _ _ _ _ (by simp), HX.out.1.setCell (by simp) _, HX.out.2.1.far (by simp) _, _, r', by simpa using HX.out.2.2.1.set_ 0 (.slice A5 n5 c5), RdV.mk HX.out.2.2.2.1, HO.out, by simpa using hsz3⟩
  case stop =>
    rintro D c pre W hD ⟨rfl, hno, hb, he⟩ hK
    have hbl := he.lt
    have hgr := grownBy_putObj' W D (.deferred none)
    have hne : w.heap.size ≠ D := by omega
    have he2 : Blk (W.putObj D (.deferred none)) w.heap.size 4 #[.bool false] := he.grown hgr (by intro e; injection e with e; omega)
    have hb2 : Below w.heap.size w (W.putObj D (.deferred none)) := hb.grown hgr hb.size (fun k e => by injection e with e; omega)
    obtain ⟨hc2, hf2⟩ := he2.facts
    have HP := Lib.hid (And.intro hno (And.intro hb2 hK))
    clear hno hb2 hK he2 hb he
    gi_wp2
    refine ⟨by simp, .inl ⟨_, _, rfl, run_takeDeferred HP.out.2.2, ?_⟩⟩
    refine ⟨.bool false, by simp [results, Tryd.results16, go_sem, hc2], ?_⟩
    exact set_mk (v := false) (by rw [← HV.out]; exact HP.out.1.symm) HP.out.2.1
  case done =>
    rintro D ys W hD hys ⟨hb, he, v, last, hv, hrl, hch, hsz3⟩ hK
    have hyes : Der.chain [] (Der.seq xs) = true := by
      have := hch []
      rw [List.append_nil, hys] at this
      rw [this]; rfl
    obtain ⟨hc0, hf0⟩ := he.facts
    have hst : Blk (W.setCell ⟨w.heap.size, 0, none⟩ (.bool true)) w.heap.size 4 #[.bool true] := by simpa using he.set_ 0 (.bool true)
    have hKs : (W.setCell ⟨w.heap.size, 0, none⟩ (.bool true)).heap[D]? = some (.deferred (some [])) := (Below.heap_setCell _ _ _ _ (by simp; omega)).trans hK
    have hgr := grownBy_putObj' (W.setCell ⟨w.heap.size, 0, none⟩ (.bool true)) D (.deferred none)
    have he2 : Blk ((W.setCell ⟨w.heap.size, 0, none⟩ (.bool true)).putObj D (.deferred none)) w.heap.size 4 #[.bool true] := hst.grown hgr (by intro e; injection e with e; omega)
    have hb2 : Below w.heap.size w ((W.setCell ⟨w.heap.size, 0, none⟩ (.bool true)).putObj D (.deferred none)) := (hb.setCell (by simp) _).grown hgr (hb.setCell (p := ⟨w.heap.size, 0, none⟩) (by simp) (.bool true)).size (fun k e => by injection e with e; omega)
    obtain ⟨hc2, hf2⟩ := he2.facts
    have HP := Lib.hid (And.intro hyes (And.intro hb2 hKs))
    clear hyes hb2 hKs he2 hst hb he hv hrl hch hys hK
    gi_wp2
    refine ⟨by simp, .inl ⟨_, _, rfl, run_takeDeferred HP.out.2.2, ?_⟩⟩
    refine ⟨.bool true, by simp [results, Tryd.results16, go_sem, hc2], ?_⟩
    exact set_mk (v := true) (by rw [← HV.out]; exact HP.out.1.symm) HP.out.2.1

theorem chain_zero : ∀ (l : List EI) (last : List UInt8), (∀ x, l[0]? = some x → Op.bytesLess x.raw last = false) → (∀ j x y, l[j]? = some x → l[j + 1]? = some y → Op.bytesLess y.raw x.raw = false) → Der.chain last (l.map fun x => some x.dat) = true
  | [], _, _, _ => rfl
  | x :: l, last, h0, h => by
    simp only [List.map_cons, EI.dat, Der.chain, h0 x rfl, Bool.not_false, Bool.true_and]
    exact chain_zero l x.raw (fun y hy => h 0 x y rfl (by simpa using hy)) fun j a b ha hb => h (j + 1) a b (by simpa using ha) (by simpa using hb)
theorem chain_at : ∀ (l : List EI) (k : Nat) (x y : EI) (last : List UInt8), l[k]? = some x → l[k + 1]? = some y → Op.bytesLess y.raw x.raw = true → Der.chain last (l.map fun x => some x.dat) = false
  | [], k, x, y, last, h, _, _ => by simp at h
  | [_], k, x, y, last, _, h, _ => by simp at h
  | a :: b :: l, 0, x, y, last, h1, h2, h => by
    simp at h1 h2
    subst h1 h2
    simp [Der.chain, EI.dat, h]
  | a :: b :: l, k + 1, x, y, last, h1, h2, h => by
    have ih := chain_at (b :: l) k x y a.raw (by simpa using h1) (by simpa using h2) h
    rw [List.map_cons]
    simp only [EI.dat, Der.chain]
    have e : (fun x : EI => some (x.t, x.body, x.raw)) = fun x => some x.dat := rfl
    rw [e, ih, Bool.and_false]
end Go.Proofs.YtnfngnmajjkdbaaDoor
