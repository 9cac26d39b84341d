/- The contract of der.All. -/
import Derived.Test.YtnfngnmajjkdbaaDoorAll1
import Derived.Test.YtnfngnmajjkdbaaDoorDer4
import Derived.Stop.RegionWithIn
namespace Go.Proofs.YtnfngnmajjkdbaaDoor
open Go.RowKit Go.Shelf
attribute [local go_sem] Oper.semAt_some
set_option maxRecDepth 100000
set_option linter.unusedVariables false
set_option linter.unusedSimpArgs false

/-- What All tells. -/
def AllPost (xs : List UInt8) (w : World) (e : Ending) (w' : World) : Prop :=
  Below w.heap.size w w' ∧
  (((Der.seq xs).any (·.isNone) = true ∧ e = .returned (.tuple #[.slice none 0 0, .int .i64 9])) ∨
   ∃ l A n c, Der.seq xs = (l : List EI).map (fun x => some x.dat) ∧ e = .returned (.tuple #[.slice A n c, .int .i64 0]) ∧ OwnE w' w.heap.size w'.heap.size (.slice A n c) l)

/-- What All's rounds keep. -/
def AllI (N : Nat) (w : World) (pre : List Item) (W : World) : Prop :=
  Below w.heap.size w W ∧ Blk W (w.heap.size + 1) 31 #[.int .i64 0] ∧
  ∃ v l, Blk W w.heap.size 43 #[v] ∧ pre.map (·.dat) = (l : List EI).map (fun x => some x.dat) ∧ OwnE W N W.heap.size v l ∧ N ≤ W.heap.size

theorem seqF_len : ∀ (k : Nat) (xs : List UInt8), (Der.seqF k xs).length ≤ k
  | 0, _ => by simp [Der.seqF]
  | k + 1, xs => by
    rw [Der.seqF]
    split
    · simp
    · split
      · simp
      · simp only [List.length_cons]
        have := seqF_len k (by assumption)
        omega

theorem seqF_mem : ∀ (k : Nat) (xs : List UInt8) (t : UInt8) (b r : List UInt8), some (t, b, r) ∈ Der.seqF k xs → b.length ≤ xs.length ∧ r.length ≤ xs.length
  | 0, _, _, _, _, h => by simp [Der.seqF] at h
  | k + 1, xs, t, b, r, h => by
    rw [Der.seqF] at h
    split at h
    · simp at h
    · split at h
      · simp at h
      · rename_i t' b' r' rest he
        have hl := elem_len he
        rcases List.mem_cons.1 h with h | h
        · simp only [Option.some.injEq, Prod.mk.injEq] at h
          obtain ⟨rfl, rfl, rfl⟩ := h
          exact ⟨hl.1, hl.2.1⟩
        · have := seqF_mem k rest t b r h
          omega

theorem AllI.own (w : World) (Bn N : Nat) (h1 : w.heap.size + 2 ≤ Bn) (h2 : Bn < N) : OwnX Bn N (AllI N w) := by
  rintro s X Y row ⟨hb, he, v, l, hv, hd, ho, hN⟩ hg hr
  exact ⟨OwnX.below (β := Unit) (by omega) (by omega) (Nat.le_refl _) () X Y row hb hg hr, OwnX.blk (β := Unit) _ (fun _ => _) (by omega) () X Y row he hg hr, v, l, OwnX.blk (β := Unit) _ (fun _ => #[v]) (by omega) () X Y row hv hg hr, hd,
    (ho.keepRows (KeepRows.ownX h2 hg hr)).mono (Nat.le_refl _) hg.size, Nat.le_trans hN hg.size⟩
theorem AllI.put {N : Nat} {w W : World} {pre : List Item} (h : AllI N w pre W) {D : Nat} {o : Obj} (o' : Obj) (hD : W.heap[D]? = some o) (ho : o.isCells = false) (hge : w.heap.size ≤ D) : AllI N w pre (W.putObj D o') := by
  obtain ⟨hb, he, v, l, hv, hd, hE, hN⟩ := h
  have hg := grownBy_putObj' W D o'
  have hsz := hg.size
  have key : ∀ {g : Nat} {t : TypeId} {cs : Array Value}, Blk W g t cs → Blk (W.putObj D o') g t cs := fun hb => hb.grown hg (fun e => by
    injection e with e; subst e; unfold Blk at hb; rw [hb] at hD; cases hD; cases ho)
  exact ⟨hb.grown hg hb.size (fun k e => by injection e with e; omega), key he, v, l, key hv, hd, (hE.keepRows (KeepRows.put o' hD ho)).mono (Nat.le_refl _) hsz, by omega⟩

theorem all_round {w w1 W w5 w6 : World} {l' : List EI} {pre : List Item} {x : Item} {v v6 : Value} {t' : UInt8} {b' r' : List UInt8} {A6 A7 : Option Addr} {n6 c6 n7 c7 : Nat}
    (hb : Below w.heap.size w W) (he : Blk W (w.heap.size + 1) 31 #[.int .i64 0]) (hv : Blk W w.heap.size 43 #[v]) (hE : OwnE W w1.heap.size W.heap.size v l') (hok : ∀ x ∈ pre, Item.ok x = true)
    (hd : pre.map (·.dat) = l'.map (fun x => some x.dat)) (hxd : x.dat = some (t', b', r')) (hxo : x.ok = true) (hN : w1.heap.size ≤ W.heap.size) (hs1 : w1.heap.size = w.heap.size + 3)
    (ho5 : Owns w5 W.drew.heap.size w5.heap.size [(.slice A6 n6 c6, b'), (.slice A7 n7 c7, r')]) (hb5 : Below W.drew.heap.size W.drew w5)
    (hown6 : OwnC 30 3 w6 w1.heap.size w6.heap.size v6 (l'.length + 1) (l'.flatMap EI.cells ++ [.int .u8 (t'.toNat : Int), .slice A6 n6 c6, .slice A7 n7 c7]))
    (hg6 : (w5.alloc (.cells #[.int .u8 (t'.toNat : Int), .slice A6 n6 c6, .slice A7 n7 c7] 30)).grownBy w6 v.ownBlock)
    (hb6 : Below w1.heap.size (w5.alloc (.cells #[.int .u8 (t'.toNat : Int), .slice A6 n6 c6, .slice A7 n7 c7] 30)) w6) :
    KeepsFrom w1.heap.size W (w6.setCell ⟨w.heap.size, 0, none⟩ v6) ∧ (w6.setCell ⟨w.heap.size, 0, none⟩ v6).heap[w.heap.size + 2]? = W.heap[w.heap.size + 2]? ∧ (∀ y ∈ pre ++ [x], Item.ok y = true) ∧ AllI w1.heap.size w (pre ++ [x]) (w6.setCell ⟨w.heap.size, 0, none⟩ v6) := by
  have hE5 : OwnE (w5.alloc (.cells #[.int .u8 (t'.toNat : Int), .slice A6 n6 c6, .slice A7 n7 c7] 30)) w1.heap.size W.heap.size v l' :=
    hE.keepRows (KeepRows.trans (KeepRows.below (Below.drew (Below.refl _ _)) (Nat.le_refl _)) (KeepRows.trans (KeepRows.below hb5 (Nat.le_refl _)) (KeepRows.alloc _ _)))
  have ho5' : Owns (w5.alloc (.cells #[.int .u8 (t'.toNat : Int), .slice A6 n6 c6, .slice A7 n7 c7] 30)) W.heap.size (w5.alloc (.cells #[.int .u8 (t'.toNat : Int), .slice A6 n6 c6, .slice A7 n7 c7] 30)).heap.size
      (EI.rows ⟨t', .slice A6 n6 c6, b', .slice A7 n7 c7, r'⟩) := (ho5.alloc (Nat.le_refl _) _).mono (Nat.le_refl _) (by simp)
  have hE6 := OwnE.snoc (x := ⟨t', .slice A6 n6 c6, b', .slice A7 n7 c7, r'⟩) hE5 ho5' hown6 hg6 hN
  have hs5 : W.heap.size ≤ w5.heap.size := hb5.size
  have hs6 := hb6.size
  simp at hs6
  have hbw : Below w.heap.size w w6 := ((Below.drew hb).trans (hb5.mono (by have := hb.size; simpa using this))).trans (Below.trans ((Below.refl _ _).alloc (by have := hb.size; omega) _) (hb6.mono (by omega)))
  have hvl := hv.lt
  have hel := he.lt
  have hv6 := (((hv.drew).below hb5 hvl).alloc (.cells #[.int .u8 (t'.toNat : Int), .slice A6 n6 c6, .slice A7 n7 c7] 30)).below hb6 (by omega)
  have he6 := (((he.drew).below hb5 hel).alloc (.cells #[.int .u8 (t'.toNat : Int), .slice A6 n6 c6, .slice A7 n7 c7] 30)).below hb6 (by omega)
  have hrow : ∀ (j : Nat) (o : Obj), v.ownBlock = some j → (w5.alloc (.cells #[.int .u8 (t'.toNat : Int), .slice A6 n6 c6, .slice A7 n7 c7] 30)).heap[j]? = some o → o.isCells = true := by
    intro j o hj ho
    rcases hE5.1.1.2 with ⟨rfl, _⟩ | ⟨g2, cap2, cur2, rfl, hb2, hg2, _⟩
    · simp [Value.ownBlock] at hj
    · simp only [Value.ownBlock, Option.some.injEq] at hj
      subst hj
      rw [hg2] at ho
      cases ho
      rfl
  refine ⟨(((((KeepsOthers.drew W).from _).trans (keepsFrom_below hb5)).trans ((KeepsOthers.alloc _ _).from _)).trans ((KeepsOthers.of_grownBy hg6 hrow).from _)).trans ((KeepsOthers.setCell _ _ _).from _), ?_, ?_, ?_⟩
  · rw [Below.heap_setCell _ _ _ _ (by simp), hb6.block _ (by omega), Below.heap_alloc _ _ _ (by omega), hb5.block _ (by simp; omega)]
    rfl
  · intro y hy
    rcases List.mem_append.1 hy with hy | hy
    · exact hok y hy
    · obtain rfl := List.mem_singleton.1 hy
      exact hxo
  · refine ⟨hbw.setCell (by simp) _, he6.far (by simp) _, v6, l' ++ [⟨t', .slice A6 n6 c6, b', .slice A7 n7 c7, r'⟩], by simpa using hv6.set_ 0 v6, ?_, (hE6.keepRows (KeepRows.setCell (by simp; omega) _)).mono (Nat.le_refl _) (by simp), by simp; omega⟩
    rw [List.map_append, List.map_append, hd]
    simp [hxd, EI.dat]

set_option maxHeartbeats 4000000 in
theorem all_any (A1 : Option Addr) (n1 c1 : Nat) (xs : List UInt8) (w : World) (h1 : Rd w w.heap.size A1 n1 c1 xs) (hn : n1 ≤ 1099511627) :
    Calls Tryd.prog 15 #[.slice A1 n1 c1] w (AllPost xs w) := by
  have hlx := h1.len
  refine (callsIn_wide (n := 5)).1 ?_
  refine callsIn_of_wp_marks Tryd.func15 rfl trivial ?_ rfl
  simp only [Tryd.ntmps15, List.size_toArray, List.length_cons, List.length_nil, Nat.reduceAdd, Nat.reduceSub, Array.replicate_succ, Array.replicate_zero, List.push_toArray, List.append_toArray, List.nil_append, List.cons_append]
  have hB0 := (Blk.new w 43 #[.slice none 0 0]).alloc (.cells #[.int .i64 0] 31)
  have hB1 := Blk.new (w.alloc (.cells #[.slice none 0 0] 43)) 31 #[.int .i64 0]
  simp only [World.size_alloc] at hB1
  gi_wp2_with fail
  refine ⟨trivial, (callsIn_wide.2 (each_any A1 n1 c1 _)).mono ?_⟩
  rintro e w1 ⟨rfl, hb1, hBn, hz1⟩
  simp only [World.size_alloc] at hb1 hBn hz1
  have hbw1 : Below w.heap.size w w1 := Below.trans (by (repeat (first | exact Below.refl _ _ | assumption | (refine Below.setCell ?_ (by first | omega | (simp; done) | (simp; omega)) _) | (refine Below.alloc ?_ (by first | omega | (simp; done) | (simp; omega)) _) | (refine below_drewN ?_ _) | (refine Below.drew ?_)))) (hb1.mono (by omega))
  have hB0' := hB0.below hb1 (by omega)
  have hB1' := hB1.below hb1 (by omega)
  clear hb1 hB0 hB1
  have hI0 : AllI w1.heap.size w [] w1 := ⟨hbw1, hB1', _, [], hB0', rfl, OwnE.nil_, Nat.le_refl _⟩
  have hs1 : w1.heap.size = w.heap.size + 3 := by omega
  have HN := Lib.hid hBn
  have HL := Lib.hid hlx
  clear hB1' hBn hz1 hB0' hlx
  gi_wp2_with fail
  refine range_each (by omega) (w.heap.size + 2) rfl rfl w.heap.size w A1 n1 c1 xs HN.out h1
    (fun pre W => (∀ x ∈ pre, Item.ok x = true) ∧ AllI w1.heap.size w pre W)
    (fun c pre W => c = .ret ∧ (Der.seq xs).any (·.isNone) = true ∧ Below w.heap.size w W ∧ Blk W (w.heap.size + 1) 31 #[.int .i64 9] ∧ Blk W w.heap.size 43 #[.slice none 0 0])
    ((OwnX.pure_ _ _ _).and (AllI.own _ _ _ (by omega) (by omega))) (fun c => (OwnX.pure_ _ _ _).and ((OwnX.pure_ _ _ _).and ((OwnX.below (by omega) (by omega) (Nat.le_refl _)).and ((OwnX.blk _ _ (by omega)).and (OwnX.blk _ _ (by omega))))))
    (fun s X h => ⟨h.2.1, h.2.1.size⟩) ⟨(fun x hx => by cases hx), hI0⟩
    (fun x a' W => ∃ Bx, (∃ u0 u1 u6 u7 u8 u9 u10 u11 u12 u13 u14 u15 u16 u17 : Value, a' = { tmps := #[u0, u1, .pointer (some ⟨w.heap.size, 0, none⟩), .pointer (some ⟨w.heap.size + 1, 0, none⟩), .pointer (some ⟨Bx, 0, none⟩), .bool x.ok, u6, u7, u8, u9, u10, u11, u12, u13, u14, u15, u16, u17], defers := [] }) ∧ (w.heap.size + 3 ≤ Bx ∧ ∃ cs, x.v = .agg cs ∧ Blk W Bx 30 cs)) ?hAx ?assign ?body ?done ?stop
  case hAx =>
    rintro x a' s X Y row ⟨Bx, hx, h3, cs, e, hb⟩ hg hr
    exact ⟨Bx, hx, h3, cs, e, OwnX.blk (β := Unit) 30 (fun _ => cs) (by omega) () X Y row hb hg hr⟩
  case assign =>
    intro l pre x W' K hi hg hK'
    have hfin : ∀ cs, x.v = .agg cs → KeepsFrom w1.heap.size W' (W'.alloc (.cells cs 30)) ∧ (W'.alloc (.cells cs 30)).heap[w.heap.size + 2]? = W'.heap[w.heap.size + 2]? ∧
        ((∀ x ∈ pre, Item.ok x = true) ∧ AllI w1.heap.size w pre (W'.alloc (.cells cs 30))) ∧
        (w.heap.size + 3 ≤ W'.heap.size ∧ ∃ cs', x.v = .agg cs' ∧ Blk (W'.alloc (.cells cs 30)) W'.heap.size 30 cs') := by
      intro cs hcs
      obtain ⟨hz, hb, he, v, l', hv, hd, hE, hN⟩ := hi
      exact ⟨(KeepsOthers.alloc _ _).from _, Below.heap_alloc _ _ _ (by omega), ⟨hz, hb.alloc (by omega) _, he.alloc _, v, l', hv.alloc _, hd, (hE.keepRows (KeepRows.alloc _ _)).mono (Nat.le_refl _) (by simp), by simp; omega⟩,
        by omega, cs, hcs, Blk.new _ _ _⟩
    rcases hg with ⟨_, hxv, hxo⟩ | ⟨t', b', r', A4, n4, c4, A5, n5, c5, _, hxv, hxo, _, _⟩
    · have HF := Lib.hid (hfin _ hxv)
      rw [hxv]
      have HXO := Lib.hid hxo
      clear hfin hxv hi
      gi_wp2
      exact hK' _ _ HF.out.1 HF.out.2.1 HF.out.2.2.1 ⟨W'.heap.size, by rw [HXO.out]; exact ⟨_, _, _, _, _, _, _, _, _, _, _, _, _, _, rfl⟩, HF.out.2.2.2⟩
    · have HF := Lib.hid (hfin _ hxv)
      rw [hxv]
      have HXO := Lib.hid hxo
      clear hfin hxv hi
      gi_wp2
      exact hK' _ _ HF.out.1 HF.out.2.1 HF.out.2.2.1 ⟨W'.heap.size, by rw [HXO.out]; exact ⟨_, _, _, _, _, _, _, _, _, _, _, _, _, _, rfl⟩, HF.out.2.2.2⟩
  case body =>
    rintro l pre x a' W hlN ⟨r, hr⟩ ⟨hok, hb, he, v, l', hv, hd, hE, hN⟩ ⟨Bx, ⟨u0, u1, u6, u7, u8, u9, u10, u11, u12, u13, u14, u15, u16, u17, rfl⟩, h3, cs, hcs, hBlk⟩ hg ⟨tl, htl⟩
    obtain ⟨hcv, hfv⟩ := hv.facts
    obtain ⟨hce, hfe⟩ := he.facts
    have hvl := hv.lt
    have hel := he.lt
    rcases hg with ⟨hxd, hxv, hxo⟩ | ⟨t', b', r', A4, n4, c4, A5, n5, c5, hxd, hxv, hxo, hr4, hr5⟩
    · have hany : (Der.seq xs).any (·.isNone) = true := by
        rw [htl, List.map_append, List.map_cons, hxd]
        simp
      have HO := Lib.hid (And.intro hb (And.intro he (And.intro hv hany)))
      clear hb he hv hok hd hE hr htl hcs hBlk hxd hxv hany
      gi_wp2
      refine ⟨((KeepsOthers.setCell _ _ _).trans (KeepsOthers.setCell _ _ _)).from _, rfl, HO.out.2.2.2, (HO.out.1.setCell (by simp) _).setCell (by simp) _, ?_, ?_⟩
      · simpa using (HO.out.2.1.far (by simp) _).set_ 0 (.int .i64 9)
      · simpa using (HO.out.2.2.1.set_ 0 (.slice none 0 0)).far (by simp) _
    · obtain rfl : cs = #[.int .u8 (t'.toNat : Int), .slice A4 n4 c4, .slice A5 n5 c5] := by rw [hxv] at hcs; injection hcs with hcs; exact hcs.symm
      obtain ⟨hcx, hfx⟩ := hBlk.facts
      have HX := Lib.hid (And.intro hb (And.intro he (And.intro hv (And.intro hE (And.intro hok (And.intro hd (And.intro hxd (And.intro hxo (And.intro htl (And.intro hr4 hr5))))))))))
      clear hb he hv hE hok hd hr htl hcs hBlk hxd hxv hr4 hr5
      gi_wp2
      have hll : pre.length = l'.length := by have := congrArg List.length HX.out.2.2.2.2.2.1; simpa using this
      have hl5 : l'.length + 1 ≤ n1 := by
        have h1 := congrArg List.length HX.out.2.2.2.2.2.2.2.2.1
        have h2 := seqF_len xs.length xs
        have h3 := HL.out
        rw [show Der.seqF xs.length xs = Der.seq xs from rfl] at h2
        simp at h1
        omega
      have hmem : (some (t', b', r')) ∈ Der.seq xs := by rw [HX.out.2.2.2.2.2.2.2.2.1, List.map_append, List.map_cons, HX.out.2.2.2.2.2.2.1]; simp
      have hbl := seqF_mem xs.length xs t' b' r' hmem
      have hn4 : n4 ≤ 1099511627776 := by have h1 := HX.out.2.2.2.2.2.2.2.2.2.1.len; have h2 := HL.out; omega
      have hn5 : n5 ≤ 1099511627776 := by have h1 := HX.out.2.2.2.2.2.2.2.2.2.2.len; have h2 := HL.out; omega
      clear hmem hbl
      refine wpIn_region_any (by kernel_rfl) ?_
      try (change wpAnyIn _ _ _ _ _ _ _ _ _ (World.drew _))
      refine wpAnyIn_ready (rs := [0, 1]) (by kernel_rfl) (by simp) (AllReadyIn.cons rfl (fun K hK => ?_) (AllReadyIn.cons rfl (fun K hK => ?_) AllReadyIn.nil))
      · go_simp
        refine hK _ _ ?_; clear hK K
        refine wpAnyIn_ready (rs := [1]) (by kernel_rfl) (by simp) (AllReadyIn.cons rfl (fun K hK => ?_) AllReadyIn.nil)
        go_simp
        refine hK _ _ ?_; clear hK K
        refine wpAnyIn_ready (rs := [2]) (by kernel_rfl) (by simp) (AllReadyIn.cons rfl (fun K hK => ?_) AllReadyIn.nil)
        go_simp
        refine ⟨trivial, (CallsIn.inRound l (callsIn_wide.2 (own_any t' A4 A5 n4 c4 n5 c5 b' r' _ (HX.out.2.2.2.2.2.2.2.2.2.1.up (Below.drew HX.out.1)) (HX.out.2.2.2.2.2.2.2.2.2.2.up (Below.drew HX.out.1)) hn4 hn5))).mono ?_⟩
        rintro e w5 ⟨A6, n6, c6, A7, n7, c7, rfl, ho5, hb5⟩
        obtain ⟨hcv5, hfv5, hBv5, hzv5⟩ := (HX.out.2.2.1.drew).box hb5 hvl
        obtain ⟨hce5, hfe5, hBe5, hze5⟩ := (HX.out.2.1.drew).box hb5 hel
        have H5 := Lib.hid (And.intro ho5 (And.intro hb5 (And.intro hBv5 hBe5)))
        clear ho5 hb5 hBv5 hBe5 hcv hfv hce hfe hcx hfx
        refine hK _ _ ?_; clear hK K
        refine wpAnyIn_ready (rs := [3]) (by kernel_rfl) (by simp) (AllReadyIn.cons rfl (fun K hK => ?_) AllReadyIn.nil)
        go_simp
        refine hK _ _ ?_; clear hK K
        refine wpAnyIn_ready (rs := [4]) (by kernel_rfl) (by simp) (AllReadyIn.cons rfl (fun K hK => ?_) AllReadyIn.nil)
        have hown5 : OwnC 30 3 (w5.alloc (.cells #[.int .u8 (t'.toNat : Int), .slice A6 n6 c6, .slice A7 n7 c7] 30)) w1.heap.size W.heap.size v l'.length (l'.flatMap EI.cells) := HX.out.2.2.2.1.1.keepRows (KeepRows.trans (KeepRows.below (Below.drew (Below.refl _ _)) (Nat.le_refl _)) (KeepRows.trans (KeepRows.below H5.out.2.1 (Nat.le_refl _)) (KeepRows.alloc _ _)))
        have HOW := Lib.hid hown5
        clear hown5
        refine stepIn_appC rfl (.tmp 12) (.tmp 15) 43 rfl 30 _ 3 56 elem_info Tryd.underlying43 rfl (by omega) w1.heap.size W.heap.size v l'.length (l'.flatMap EI.cells) (by rfl) HOW.out (by simp; omega) _ _ 1 1 [.int .u8 (t'.toNat : Int), .slice A6 n6 c6, .slice A7 n7 c7] (by rfl) (reads_three w5 30 _ _ _) (by simp [Value.oneCell']) (by omega) (by omega) ?_
        intro v6 w6 hown6 hg6 hat6 hb6
        obtain ⟨Av6, cv6, rfl, _, _, _, _⟩ := hown6.shape
        obtain ⟨hcv6, hfv6, hBv6, hzv6⟩ := (H5.out.2.2.1.alloc (.cells #[.int .u8 (t'.toNat : Int), .slice A6 n6 c6, .slice A7 n7 c7] 30)).box hb6 (by omega)
        obtain ⟨hce6, hfe6, hBe6, hze6⟩ := (H5.out.2.2.2.alloc (.cells #[.int .u8 (t'.toNat : Int), .slice A6 n6 c6, .slice A7 n7 c7] 30)).box hb6 (by omega)
        have H6 := Lib.hid (And.intro hown6 (And.intro hg6 (And.intro hb6 (And.intro hBv6 hBe6))))
        clear hown6 hg6 hat6 hb6 hBv6 hBe6 hcv5 hfv5 hce5 hfe5
        refine hK _ _ ?_; clear hK K
        refine wpAnyIn_ready (rs := [5]) (by kernel_rfl) (by simp) (AllReadyIn.cons rfl (fun K hK => ?_) AllReadyIn.nil)
        go_simp
        refine hK _ _ ?_; clear hK K
        refine wpAnyIn_done (by kernel_rfl) ?_ _
        exact all_round HX.out.1 HX.out.2.1 HX.out.2.2.1 HX.out.2.2.2.1 HX.out.2.2.2.2.1 HX.out.2.2.2.2.2.1 HX.out.2.2.2.2.2.2.1 HX.out.2.2.2.2.2.2.2.1 hN hs1 H5.out.1 H5.out.2.1 H6.out.1 H6.out.2.1 H6.out.2.2.1
      · go_simp
        refine hK _ _ ?_; clear hK K
        refine wpAnyIn_ready (rs := [0, 2]) (by kernel_rfl) (by simp) (AllReadyIn.cons rfl (fun K hK => ?_) (AllReadyIn.cons rfl (fun K hK => ?_) AllReadyIn.nil))
        · go_simp
          refine hK _ _ ?_; clear hK K
          refine wpAnyIn_ready (rs := [2]) (by kernel_rfl) (by simp) (AllReadyIn.cons rfl (fun K hK => ?_) AllReadyIn.nil)
          go_simp
          refine ⟨trivial, (CallsIn.inRound l (callsIn_wide.2 (own_any t' A4 A5 n4 c4 n5 c5 b' r' _ (HX.out.2.2.2.2.2.2.2.2.2.1.up (Below.drew HX.out.1)) (HX.out.2.2.2.2.2.2.2.2.2.2.up (Below.drew HX.out.1)) hn4 hn5))).mono ?_⟩
          rintro e w5 ⟨A6, n6, c6, A7, n7, c7, rfl, ho5, hb5⟩
          obtain ⟨hcv5, hfv5, hBv5, hzv5⟩ := (HX.out.2.2.1.drew).box hb5 hvl
          obtain ⟨hce5, hfe5, hBe5, hze5⟩ := (HX.out.2.1.drew).box hb5 hel
          have H5 := Lib.hid (And.intro ho5 (And.intro hb5 (And.intro hBv5 hBe5)))
          clear ho5 hb5 hBv5 hBe5 hcv hfv hce hfe hcx hfx
          refine hK _ _ ?_; clear hK K
          refine wpAnyIn_ready (rs := [3]) (by kernel_rfl) (by simp) (AllReadyIn.cons rfl (fun K hK => ?_) AllReadyIn.nil)
          go_simp
          refine hK _ _ ?_; clear hK K
          refine wpAnyIn_ready (rs := [4]) (by kernel_rfl) (by simp) (AllReadyIn.cons rfl (fun K hK => ?_) AllReadyIn.nil)
          have hown5 : OwnC 30 3 (w5.alloc (.cells #[.int .u8 (t'.toNat : Int), .slice A6 n6 c6, .slice A7 n7 c7] 30)) w1.heap.size W.heap.size v l'.length (l'.flatMap EI.cells) := HX.out.2.2.2.1.1.keepRows (KeepRows.trans (KeepRows.below (Below.drew (Below.refl _ _)) (Nat.le_refl _)) (KeepRows.trans (KeepRows.below H5.out.2.1 (Nat.le_refl _)) (KeepRows.alloc _ _)))
          have HOW := Lib.hid hown5
          clear hown5
          refine stepIn_appC rfl (.tmp 12) (.tmp 15) 43 rfl 30 _ 3 56 elem_info Tryd.underlying43 rfl (by omega) w1.heap.size W.heap.size v l'.length (l'.flatMap EI.cells) (by rfl) HOW.out (by simp; omega) _ _ 1 1 [.int .u8 (t'.toNat : Int), .slice A6 n6 c6, .slice A7 n7 c7] (by rfl) (reads_three w5 30 _ _ _) (by simp [Value.oneCell']) (by omega) (by omega) ?_
          intro v6 w6 hown6 hg6 hat6 hb6
          obtain ⟨Av6, cv6, rfl, _, _, _, _⟩ := hown6.shape
          obtain ⟨hcv6, hfv6, hBv6, hzv6⟩ := (H5.out.2.2.1.alloc (.cells #[.int .u8 (t'.toNat : Int), .slice A6 n6 c6, .slice A7 n7 c7] 30)).box hb6 (by omega)
          obtain ⟨hce6, hfe6, hBe6, hze6⟩ := (H5.out.2.2.2.alloc (.cells #[.int .u8 (t'.toNat : Int), .slice A6 n6 c6, .slice A7 n7 c7] 30)).box hb6 (by omega)
          have H6 := Lib.hid (And.intro hown6 (And.intro hg6 (And.intro hb6 (And.intro hBv6 hBe6))))
          clear hown6 hg6 hat6 hb6 hBv6 hBe6 hcv5 hfv5 hce5 hfe5
          refine hK _ _ ?_; clear hK K
          refine wpAnyIn_ready (rs := [5]) (by kernel_rfl) (by simp) (AllReadyIn.cons rfl (fun K hK => ?_) AllReadyIn.nil)
          go_simp
          refine hK _ _ ?_; clear hK K
          refine wpAnyIn_done (by kernel_rfl) ?_ _
          exact all_round HX.out.1 HX.out.2.1 HX.out.2.2.1 HX.out.2.2.2.1 HX.out.2.2.2.2.1 HX.out.2.2.2.2.2.1 HX.out.2.2.2.2.2.2.1 HX.out.2.2.2.2.2.2.2.1 hN hs1 H5.out.1 H5.out.2.1 H6.out.1 H6.out.2.1 H6.out.2.2.1
        · go_simp
          refine ⟨trivial, (CallsIn.inRound l (callsIn_wide.2 (own_any t' A4 A5 n4 c4 n5 c5 b' r' _ (HX.out.2.2.2.2.2.2.2.2.2.1.up (Below.drew HX.out.1)) (HX.out.2.2.2.2.2.2.2.2.2.2.up (Below.drew HX.out.1)) hn4 hn5))).mono ?_⟩
          rintro e w5 ⟨A6, n6, c6, A7, n7, c7, rfl, ho5, hb5⟩
          obtain ⟨hcv5, hfv5, hBv5, hzv5⟩ := (HX.out.2.2.1.drew).box hb5 hvl
          obtain ⟨hce5, hfe5, hBe5, hze5⟩ := (HX.out.2.1.drew).box hb5 hel
          have H5 := Lib.hid (And.intro ho5 (And.intro hb5 (And.intro hBv5 hBe5)))
          clear ho5 hb5 hBv5 hBe5 hcv hfv hce hfe hcx hfx
          refine hK _ _ ?_; clear hK K
          refine wpAnyIn_ready (rs := [0, 3]) (by kernel_rfl) (by simp) (AllReadyIn.cons rfl (fun K hK => ?_) (AllReadyIn.cons rfl (fun K hK => ?_) AllReadyIn.nil))
          · go_simp
            refine hK _ _ ?_; clear hK K
            refine wpAnyIn_ready (rs := [3]) (by kernel_rfl) (by simp) (AllReadyIn.cons rfl (fun K hK => ?_) AllReadyIn.nil)
            go_simp
            refine hK _ _ ?_; clear hK K
            refine wpAnyIn_ready (rs := [4]) (by kernel_rfl) (by simp) (AllReadyIn.cons rfl (fun K hK => ?_) AllReadyIn.nil)
            have hown5 : OwnC 30 3 (w5.alloc (.cells #[.int .u8 (t'.toNat : Int), .slice A6 n6 c6, .slice A7 n7 c7] 30)) w1.heap.size W.heap.size v l'.length (l'.flatMap EI.cells) := HX.out.2.2.2.1.1.keepRows (KeepRows.trans (KeepRows.below (Below.drew (Below.refl _ _)) (Nat.le_refl _)) (KeepRows.trans (KeepRows.below H5.out.2.1 (Nat.le_refl _)) (KeepRows.alloc _ _)))
            have HOW := Lib.hid hown5
            clear hown5
            refine stepIn_appC rfl (.tmp 12) (.tmp 15) 43 rfl 30 _ 3 56 elem_info Tryd.underlying43 rfl (by omega) w1.heap.size W.heap.size v l'.length (l'.flatMap EI.cells) (by rfl) HOW.out (by simp; omega) _ _ 1 1 [.int .u8 (t'.toNat : Int), .slice A6 n6 c6, .slice A7 n7 c7] (by rfl) (reads_three w5 30 _ _ _) (by simp [Value.oneCell']) (by omega) (by omega) ?_
            intro v6 w6 hown6 hg6 hat6 hb6
            obtain ⟨Av6, cv6, rfl, _, _, _, _⟩ := hown6.shape
            obtain ⟨hcv6, hfv6, hBv6, hzv6⟩ := (H5.out.2.2.1.alloc (.cells #[.int .u8 (t'.toNat : Int), .slice A6 n6 c6, .slice A7 n7 c7] 30)).box hb6 (by omega)
            obtain ⟨hce6, hfe6, hBe6, hze6⟩ := (H5.out.2.2.2.alloc (.cells #[.int .u8 (t'.toNat : Int), .slice A6 n6 c6, .slice A7 n7 c7] 30)).box hb6 (by omega)
            have H6 := Lib.hid (And.intro hown6 (And.intro hg6 (And.intro hb6 (And.intro hBv6 hBe6))))
            clear hown6 hg6 hat6 hb6 hBv6 hBe6 hcv5 hfv5 hce5 hfe5
            refine hK _ _ ?_; clear hK K
            refine wpAnyIn_ready (rs := [5]) (by kernel_rfl) (by simp) (AllReadyIn.cons rfl (fun K hK => ?_) AllReadyIn.nil)
            go_simp
            refine hK _ _ ?_; clear hK K
            refine wpAnyIn_done (by kernel_rfl) ?_ _
            exact all_round HX.out.1 HX.out.2.1 HX.out.2.2.1 HX.out.2.2.2.1 HX.out.2.2.2.2.1 HX.out.2.2.2.2.2.1 HX.out.2.2.2.2.2.2.1 HX.out.2.2.2.2.2.2.2.1 hN hs1 H5.out.1 H5.out.2.1 H6.out.1 H6.out.2.1 H6.out.2.2.1
          · go_simp
            refine hK _ _ ?_; clear hK K
            refine wpAnyIn_ready (rs := [0]) (by kernel_rfl) (by simp) (AllReadyIn.cons rfl (fun K hK => ?_) AllReadyIn.nil)
            go_simp
            refine hK _ _ ?_; clear hK K
            refine wpAnyIn_ready (rs := [4]) (by kernel_rfl) (by simp) (AllReadyIn.cons rfl (fun K hK => ?_) AllReadyIn.nil)
            have hown5 : OwnC 30 3 (w5.alloc (.cells #[.int .u8 (t'.toNat : Int), .slice A6 n6 c6, .slice A7 n7 c7] 30)) w1.heap.size W.heap.size v l'.length (l'.flatMap EI.cells) := HX.out.2.2.2.1.1.keepRows (KeepRows.trans (KeepRows.below (Below.drew (Below.refl _ _)) (Nat.le_refl _)) (KeepRows.trans (KeepRows.below H5.out.2.1 (Nat.le_refl _)) (KeepRows.alloc _ _)))
            have HOW := Lib.hid hown5
            clear hown5
            refine stepIn_appC rfl (.tmp 12) (.tmp 15) 43 rfl 30 _ 3 56 elem_info Tryd.underlying43 rfl (by omega) w1.heap.size W.heap.size v l'.length (l'.flatMap EI.cells) (by rfl) HOW.out (by simp; omega) _ _ 1 1 [.int .u8 (t'.toNat : Int), .slice A6 n6 c6, .slice A7 n7 c7] (by rfl) (reads_three w5 30 _ _ _) (by simp [Value.oneCell']) (by omega) (by omega) ?_
            intro v6 w6 hown6 hg6 hat6 hb6
            obtain ⟨Av6, cv6, rfl, _, _, _, _⟩ := hown6.shape
            obtain ⟨hcv6, hfv6, hBv6, hzv6⟩ := (H5.out.2.2.1.alloc (.cells #[.int .u8 (t'.toNat : Int), .slice A6 n6 c6, .slice A7 n7 c7] 30)).box hb6 (by omega)
            obtain ⟨hce6, hfe6, hBe6, hze6⟩ := (H5.out.2.2.2.alloc (.cells #[.int .u8 (t'.toNat : Int), .slice A6 n6 c6, .slice A7 n7 c7] 30)).box hb6 (by omega)
            have H6 := Lib.hid (And.intro hown6 (And.intro hg6 (And.intro hb6 (And.intro hBv6 hBe6))))
            clear hown6 hg6 hat6 hb6 hBv6 hBe6 hcv5 hfv5 hce5 hfe5
            refine hK _ _ ?_; clear hK K
            refine wpAnyIn_ready (rs := [5]) (by kernel_rfl) (by simp) (AllReadyIn.cons rfl (fun K hK => ?_) AllReadyIn.nil)
            go_simp
            refine hK _ _ ?_; clear hK K
            refine wpAnyIn_done (by kernel_rfl) ?_ _
            exact all_round HX.out.1 HX.out.2.1 HX.out.2.2.1 HX.out.2.2.2.1 HX.out.2.2.2.2.1 HX.out.2.2.2.2.2.1 HX.out.2.2.2.2.2.2.1 HX.out.2.2.2.2.2.2.2.1 hN hs1 H5.out.1 H5.out.2.1 H6.out.1 H6.out.2.1 H6.out.2.2.1
  case done =>
    rintro D ys W hD hys ⟨hok, hb, he, v, l', hv, hd, hE, hN⟩ hK
    obtain ⟨Av, cv, rfl, _, _, _, _⟩ := hE.1.shape
    obtain ⟨hcv, hfv⟩ := hv.facts
    obtain ⟨hce, hfe⟩ := he.facts
    have hvl := hv.lt
    have hel := he.lt
    have hv2 : Blk ((W.setCell ⟨w.heap.size, 0, none⟩ (.slice Av l'.length cv)).setCell ⟨w.heap.size + 1, 0, none⟩ (.int .i64 0)) w.heap.size 43 #[.slice Av l'.length cv] := by
      simpa using (hv.set_ 0 (.slice Av l'.length cv)).far (p := ⟨w.heap.size + 1, 0, none⟩) (by simp) (.int .i64 0)
    have he2 : Blk ((W.setCell ⟨w.heap.size, 0, none⟩ (.slice Av l'.length cv)).setCell ⟨w.heap.size + 1, 0, none⟩ (.int .i64 0)) (w.heap.size + 1) 31 #[.int .i64 0] := by
      simpa using (he.far (p := ⟨w.heap.size, 0, none⟩) (by simp) (.slice Av l'.length cv)).set_ 0 (.int .i64 0)
    have hb2 : Below w.heap.size w ((W.setCell ⟨w.heap.size, 0, none⟩ (.slice Av l'.length cv)).setCell ⟨w.heap.size + 1, 0, none⟩ (.int .i64 0)) := (hb.setCell (by simp) _).setCell (by simp) _
    have hE2 : OwnE ((W.setCell ⟨w.heap.size, 0, none⟩ (.slice Av l'.length cv)).setCell ⟨w.heap.size + 1, 0, none⟩ (.int .i64 0)) w1.heap.size W.heap.size (.slice Av l'.length cv) l' :=
      hE.keepRows (KeepRows.trans (KeepRows.setCell (by simp; omega) _) (KeepRows.setCell (by simp; omega) _))
    have hK2 : ((W.setCell ⟨w.heap.size, 0, none⟩ (.slice Av l'.length cv)).setCell ⟨w.heap.size + 1, 0, none⟩ (.int .i64 0)).heap[D]? = some (.deferred (some [])) :=
      (Below.heap_setCell _ _ _ _ (by simp; omega)).trans ((Below.heap_setCell _ _ _ _ (by simp; omega)).trans hK)
    have hI2 : AllI w1.heap.size w ys ((W.setCell ⟨w.heap.size, 0, none⟩ (.slice Av l'.length cv)).setCell ⟨w.heap.size + 1, 0, none⟩ (.int .i64 0)) := ⟨hb2, he2, _, l', hv2, hd, hE2.mono (Nat.le_refl _) (by simp), by simpa using hN⟩
    have hP := hI2.put (.deferred none) hK2 rfl (by omega)
    have hg := grownBy_putObj' ((W.setCell ⟨w.heap.size, 0, none⟩ (.slice Av l'.length cv)).setCell ⟨w.heap.size + 1, 0, none⟩ (.int .i64 0)) D (.deferred none)
    obtain ⟨hcv4, hfv4⟩ := (hv2.grown hg (by simp; omega)).facts
    obtain ⟨hce4, hfe4⟩ := (he2.grown hg (by simp; omega)).facts
    have hbp := hP.1
    have hEp := (hE2.keepRows (KeepRows.put (.deferred none) hK2 rfl)).mono (lo' := w.heap.size) (hi' := (((W.setCell ⟨w.heap.size, 0, none⟩ (.slice Av l'.length cv)).setCell ⟨w.heap.size + 1, 0, none⟩ (.int .i64 0)).putObj D (.deferred none)).heap.size) (by omega) (by simp)
    have HP := Lib.hid (And.intro hbp (And.intro hEp (And.intro hK2 (And.intro hys hd))))
    clear hb he hv hE hK hb2 he2 hv2 hE2 hK2 hI2 hP hg hbp hEp hys hd hok
    gi_wp2
    refine ⟨by simp, .inl ⟨_, _, rfl, run_takeDeferred HP.out.2.2.1, ?_⟩⟩
    refine ⟨.tuple #[.slice Av l'.length cv, .int .i64 0], by simp [results, Tryd.results15, go_sem, hcv4, hce4], HP.out.1, .inr ⟨l', _, _, _, ?_, rfl, HP.out.2.1⟩⟩
    rw [← HP.out.2.2.2.1, HP.out.2.2.2.2]
  case stop =>
    rintro D c pre W hD ⟨rfl, hany, hb, he, hv⟩ hK
    have hg := grownBy_putObj' W D (.deferred none)
    have hne0 : w.heap.size ≠ D := by omega
    have hne1 : w.heap.size + 1 ≠ D := by omega
    have hbp := hb.grown hg hb.size (fun k e => by injection e with e; omega)
    have hvp : Blk (W.putObj D (.deferred none)) w.heap.size 43 #[.slice none 0 0] := hv.grown hg (by simp; omega)
    have hep : Blk (W.putObj D (.deferred none)) (w.heap.size + 1) 31 #[.int .i64 9] := he.grown hg (by simp; omega)
    obtain ⟨hcv, hfv⟩ := hvp.facts
    obtain ⟨hce, hfe⟩ := hep.facts
    have HP := Lib.hid (And.intro hbp (And.intro hany hK))
    clear hbp hany hK hb he hv hvp hep hg
    gi_wp2
    refine ⟨by simp, .inl ⟨_, _, rfl, run_takeDeferred HP.out.2.2, ?_⟩⟩
    refine ⟨.tuple #[.slice none 0 0, .int .i64 9], by simp [results, Tryd.results15, go_sem, hcv, hce], HP.out.1, .inl ⟨HP.out.2.1, rfl⟩⟩
end Go.Proofs.YtnfngnmajjkdbaaDoor
