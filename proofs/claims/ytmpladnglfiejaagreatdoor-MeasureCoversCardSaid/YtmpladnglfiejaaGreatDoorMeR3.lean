/- The measure's Ranges. -/
import Derived.Test.YtmpladnglfiejaaGreatDoorMeR2
import Derived.Test.YtmpladnglfiejaaGreatDoorPeTop
import Derived.Test.YtmpladnglfiejaaGreatDoorMeR0
namespace Go.Proofs.YtmpladnglfiejaaGreatDoor
open Go.RowKit Go.Shelf
attribute [local go_sem] Oper.semAt_some
set_option maxRecDepth 100000
set_option linter.unusedVariables false
set_option linter.unusedSimpArgs false
theorem ranges_any (C : IV) (N : Nat) (w : World) :
    Calls Tryz.prog 21 #[C.val, .int .i64 (N : Int)] w fun e w' => e = .returned (.func (.func 36) #[] #[.pointer (some ⟨w.heap.size, 0, none⟩), .pointer (some ⟨w.heap.size + 1, 0, none⟩)]) ∧ w' = (w.alloc (.cells C.cells 30)).alloc (.cells #[.int .i64 (N : Int)] 3) := by
  unfold IV.val IV.cells
  go_enter Tryz.func21, Tryz.ntmps21
  go_wp2
  go_ret
  exact ⟨rfl, rfl⟩
theorem load_pairsU {w : World} {ad : Addr} {A : Option Addr} {n c : Nat} (h : w.cell? ad = some (.slice A n c)) : (loadVar 34 ad).run Tryz.prog w = .ok (.slice A n c) w := by
  simp [go_sem, h, Tryz.underlying34]
def placeC (v : Nat × Nat) : List Value := [.int .i64 (v.1 : Int), .int .i64 (v.2 : Int)]
theorem placeC_len (l : List (Nat × Nat)) : (l.flatMap placeC).length = l.length * 2 := by
  induction l with
  | nil => rfl
  | cons x l ih => rw [List.flatMap_cons, List.length_append, ih, List.length_cons]; simp [placeC]; omega
/-- While the places come: the variable of the result, the row so far; all else is as it was. -/
structure MI (w3 : World) (lb : Nat) (pre : List (Nat × Nat)) (W : World) : Prop where
  row : ∃ v, Blk W lb 34 #[v] ∧ OwnC 39 2 W w3.heap.size W.heap.size v pre.length (pre.flatMap placeC)
  grown : w3.grownBy W (some lb)
theorem MI.below {w3 X Y : World} {lb : Nat} {pre : List (Nat × Nat)} (h : MI w3 lb pre X) (hb : Below X.heap.size X Y) : MI w3 lb pre Y := by
  obtain ⟨⟨v, h1, h2⟩, h3⟩ := h
  exact ⟨⟨v, h1.below hb h1.lt, (h2.below hb (Nat.le_refl _)).mono (Nat.le_refl _) hb.size⟩, grown_below h3 hb⟩
theorem MI.putObj {w3 W : World} {lb l : Nat} {pre : List (Nat × Nat)} {o o' : Obj} (h : MI w3 lb pre W) (hlb : lb < w3.heap.size) (hl : w3.heap.size ≤ l) (ho : W.heap[l]? = some o) (hoc : o.isCells = false) : MI w3 lb pre (W.putObj l o') := by
  obtain ⟨⟨v, h1, h2⟩, h3⟩ := h
  refine ⟨⟨v, (putObj_other2 (by omega)).trans h1, (h2.keepCells fun k cur fr _ _ hk => putObj_other2 (fun e => by
    subst e
    rw [ho] at hk
    injection hk with hk
    subst hk
    cases hoc)).mono (Nat.le_refl _) (by simp)⟩, grown_on h3 (grownBy_putObj W l o') fun j e => .inl (by injection e with e; omega)⟩
theorem pair_info : (Tryz.prog.info? 39).map (fun i => (i.zero, i.size, i.bytes)) = some (some (.agg #[.int .i64 0, .int .i64 0]), 2, 16) := by kernel_rfl
/-- What Ranges answers. -/
def RangesOut (xs : List UInt8) (w : World) (e : Ending) (w' : World) : Prop :=
  Below w.heap.size w w' ∧ ∃ v : Value, e = .returned (.tuple #[v, .int .i64 (Pe.err xs : Int)]) ∧ (Pe.err xs ≠ 0 → v = .slice none 0 0) ∧ (Pe.err xs = 0 → OwnC 39 2 w' w.heap.size w'.heap.size v (Pe.ranges xs).length ((Pe.ranges xs).flatMap placeC))
set_option maxHeartbeats 4000000 in
theorem meRanges_any (A : Option Addr) (n c : Nat) (xs : List UInt8) (w : World) (hr : Rd w w.heap.size A n c xs) (hn : n ≤ 16777216) :
    Calls Tryz.prog 9 #[.slice A n c] w (RangesOut xs w) := by
  have hl := hr.len
  have hB0 := Blk.new w 34 #[.slice none 0 0]
  have hp := pe_parse_any A n c xs (w.alloc (.cells #[.slice none 0 0] 34)) ((hr.alloc (Nat.le_refl _) _).more (by simp))
  have H := Lib.hid (And.intro hr (And.intro hB0 hp))
  clear hr hB0 hp
  refine (callsIn_wide (n := 5)).1 ?_
  refine callsIn_of_wp_marks Tryz.func9 rfl trivial ?_ rfl
  simp only [Tryz.ntmps9, List.size_toArray, List.length_cons, List.length_nil, Nat.reduceAdd, Nat.reduceSub, Array.replicate_succ, Array.replicate_zero, List.push_toArray, List.append_toArray, List.nil_append, List.cons_append]
  refine wpIn_wide.2 ?_
  go_wp2_with fail
  refine H.out.2.2.mono ?_
  rintro e w1 ⟨hb1, C, rfl, hone, hz, ho⟩
  have hs0 := hb1.size
  simp only [World.size_alloc] at hs0
  have hb01 : Below w.heap.size w w1 := ((Below.refl _ _).alloc (Nat.le_refl _) _).trans (hb1.mono (by simp))
  have hB1 : Blk w1 w.heap.size 34 #[.slice none 0 0] := H.out.2.1.below hb1 (by simp)
  have H1 := Lib.hid (And.intro hone (And.intro hz (And.intro ho (And.intro hb01 hB1))))
  have HP := Lib.hid (And.intro hb1 hs0)
  obtain ⟨er, her⟩ : ∃ k, Pe.err xs = k := ⟨_, rfl⟩
  rw [her]
  clear hone hz ho hb01 hB1 hb1
  obtain ⟨⟨A4, n4, c4, e4⟩, ⟨A7, n7, c7, e7⟩⟩ := H1.out.1
  have E7 := Lib.hid (And.intro e4 e7)
  clear e4 e7
  go_upto_region 2 with (first
    | ((with_reducible refine at_store_img ?_); refine wpList_store_img rfl _ _ rfl w1.heap.size IV.zero C rfl rfl (Blk.new w1 _ _) H1.out.1 ?_; intro w2 hB2 hg2)
    | fail)
  have hw12 : w1.grownBy w2 (some w1.heap.size) := ⟨hg2.os, hg2.tape, hg2.output, Nat.le_trans (by simp) hg2.size, fun k h1 h2 => (hg2.block k (by simp; omega) h2).trans (Below.heap_alloc _ _ k h1)⟩
  have hb12 : Below w1.heap.size w1 w2 := (Below.refl _ _).grown hw12 (Nat.le_refl _) (fun j e => by injection e with e; omega)
  have hB02 : Blk w2 w.heap.size 34 #[.slice none 0 0] := H1.out.2.2.2.2.grown hw12 (fun e => by injection e with e; omega)
  have hb02 : Below w.heap.size w w2 := H1.out.2.2.2.1.trans (hb12.mono (by omega))
  have H2 := Lib.hid (And.intro hB2 (And.intro hb12 (And.intro hB02 hb02)))
  clear hB2 hg2 hw12 hb12 hB02 hb02
  by_cases he : er = 0
  · subst he
    have ow := H1.out.2.2.1 her
    obtain ⟨hplus, hck, hdr, hhd, htb, hln⟩ := ow.nums
    obtain ⟨Ab, cb, hsec, hrd1⟩ := ow.secs.rdS
    have hbk := ow.secs.1.lt
    have hsl := (Array.getElem?_eq_some_iff.1 H2.out.1).1
    have OW := Lib.hid (And.intro hck (And.intro hdr (And.intro hhd (And.intro hln (And.intro hsec (And.intro hrd1 (And.intro hbk ow.secs)))))))
    clear ow hplus hck hdr hhd htb hln hsec hrd1 hbk
    go_wp2_with (first
      | ((with_reducible refine at_load_img ?_); refine wpList_load_img rfl _ rfl w1.heap.size C rfl H2.out.1 ?_)
      | fail)
    refine (ranges_any C n w2).mono ?_
    rintro e w3 ⟨rfl, hw3⟩
    have hs3 : w3.heap.size = w2.heap.size + 2 := by rw [hw3]; simp
    have hb23 : Below w2.heap.size w2 w3 := by rw [hw3]; exact ((Below.refl _ _).alloc (Nat.le_refl _) _).alloc (by simp) _
    have hP3 : Bi w3 w2.heap.size C := by rw [hw3]; exact (Blk.new w2 _ _).alloc _
    have hN3 : Blk w3 (w2.heap.size + 1) 3 #[.int .i64 (n : Int)] := by
      have := Blk.new (w2.alloc (.cells C.cells 30)) 3 #[.int .i64 (n : Int)]
      rw [World.size_alloc] at this
      rw [hw3]
      exact this
    have hL3 : Blk w3 w.heap.size 34 #[.slice none 0 0] := H2.out.2.2.1.below hb23 (by have := H2.out.2.1.size; omega)
    have H3 := Lib.hid (And.intro hs3 (And.intro hb23 (And.intro hP3 (And.intro hN3 hL3))))
    clear hs3 hb23 hP3 hN3 hL3 hw3
    go_wp2_with fail
    refine (wpIn_wide (n := 5)).1 ?_
    have hb := meB her (by omega)
    have hbk := hb.ck
    have hbd := hb.dr
    have hbh := hb.hd
    have hbl := hb.ln
    have hlbs : w.heap.size < w3.heap.size := H3.out.2.2.2.2.lt
    refine range_ranges (by omega) w2.heap.size (w2.heap.size + 1) rfl rfl C Ab (Pe.secs xs).length cb (Pe.secs xs) (Pe.riseS (Pe.secs xs)) OW.out.2.2.2.2.1 (by have := hb.many; omega) (fun S' h1 h2 => Pe.sorted_eq her h1 h2) n (Pe.last xs) (by rw [OW.out.2.2.2.1, ← hl]; exact last_eq her)
      (by rw [OW.out.1]; exact hb.ck) (by rw [OW.out.2.1]; exact hb.dr) (by rw [OW.out.2.2.1]; exact hb.hd) (by rw [OW.out.2.2.2.1]; exact hb.ln) (by omega) hb.small
      (MI w3 w.heap.size) (fun s X Y h hb => h.below hb) (fun s W l o o' h h1 h2 h3 => h.putObj hlbs h1 h2 h3) ?hIb ?h0 (fun v a' => a' = ({ tmps := #[.slice A n c, undef, .pointer (some ⟨w.heap.size, 0, none⟩), .int .i64 0, .pointer (some ⟨w1.heap.size, 0, none⟩), .int .i64 (v.1 : Int), .int .i64 (v.2 : Int), .tuple #[C.val, .int .i64 0], .slice A n c, .tuple #[C.val, .int .i64 0], C.val, .int .i64 0, .int .i64 0, .bool false, undef, C.val, .slice A n c, .int .i64 (n : Int), .func (.func 36) #[] #[.pointer (some ⟨w2.heap.size, 0, none⟩), .pointer (some ⟨w2.heap.size + 1, 0, none⟩)], .int .i64 (v.1 : Int), .int .i64 (v.2 : Int), undef, undef, undef, undef, undef, undef, undef], defers := [] } : Act)) ?assign ?body ?done
    case hIb =>
      intro pre X h
      have hsz := h.grown.size
      have hs12 := H2.out.2.1.size
      have hs23 := H3.out.1
      have hXk : ∀ k, k < w3.heap.size → k ≠ w.heap.size → X.heap[k]? = w3.heap[k]? := fun k h1 h2 => h.grown.block k h1 (fun e => by injection e with e; exact h2 e)
      refine ⟨fun o => ?_, ?_, ?_⟩
      · have hB : Bi X w2.heap.size C := (hXk _ (by omega) (by omega)).trans H3.out.2.2.1
        exact hB.cell o
      · have hB : Blk X (w2.heap.size + 1) 3 #[.int .i64 (n : Int)] := (hXk _ (by omega) (by omega)).trans H3.out.2.2.2.1
        exact hB.cell 0
      · have ho := OW.out.2.2.2.2.2.2.2.keep (w' := X) fun k h1 h2 => by
          simp only [World.size_alloc] at h1
          exact (hXk k (by omega) (by omega)).trans ((H3.out.2.1.block k (by omega)).trans (H2.out.2.1.block k h2))
        obtain ⟨A', c', e', hr'⟩ := ho.rdS
        rw [OW.out.2.2.2.2.1] at e'
        injection e' with e1 e2 e3
        subst e1 e3
        exact hr'.more (by omega)
    case h0 => exact ⟨⟨_, H3.out.2.2.2.2, OwnC.nil_⟩, grown_refl _ _⟩
    case assign =>
      intro l v W K hK
      have HK := Lib.hid hK
      clear hK
      unfold pairV
      gi_wp2
      exact HK.out _ rfl
    case body =>
      rintro l pre v post a' W hlN hI hpre rfl
      obtain ⟨⟨vv, hbx, hrow⟩, hgr⟩ := hI
      obtain ⟨Av, cv, rfl, _⟩ := hrow.shape
      have hplen : pre.length ≤ 100 := by
        have h1 := congrArg List.length hpre
        have h2 := rngs_len C.check C.dir C.headers (Pe.last xs) (Pe.riseS (Pe.secs xs))
        have h3 := (Pe.riseS_perm (Pe.secs xs)).length_eq
        have h4 := hb.many
        simp only [List.length_append, List.length_cons] at h1
        omega
      obtain ⟨i0, hi, hz0, hz1, hz2⟩ := info_parts pair_info
      have k0 : W.cell? ⟨w.heap.size, 0, none⟩ = some (.slice Av pre.length cv) := hbx.cell 0
      have l0 := hbx.frozen 0
      have hNW := hgr.size
      obtain ⟨x1, x2⟩ := v
      have hnew : ∀ j u, ([.int .i64 (x1 : Int), .int .i64 (x2 : Int)] : List Value)[j]? = some u → (W.alloc (.cells #[.int .i64 (x1 : Int), .int .i64 (x2 : Int)] 39)).cell? ((⟨W.heap.size, 0, none⟩ : Addr).add j) = some u := fun j u hj => by
        rw [Addr.add_lit, Nat.zero_add, (Blk.new W 39 #[.int .i64 (x1 : Int), .int .i64 (x2 : Int)]).cell j]
        simpa using hj
      have hlbW : w.heap.size < W.heap.size := hbx.lt
      have ne_of : ∀ {j : Nat} {o : Obj}, W.heap[j]? = some o → (∀ cur, o ≠ .cells cur 39 (0, 0)) → some j ≠ (Value.slice Av pre.length cv).ownBlock := fun hj hno => by
        rcases ownsRow_ne hrow.1 hj hno with e | e
        · rw [e]; simp
        · exact fun e' => e e'.symm
      have hlne := ne_of hbx (fun cur e => by injection e with e1 e2; exact absurd e2 (by decide))
      have HX := Lib.hid (And.intro hbx (And.intro hrow (And.intro hgr (And.intro hlne (fun (j : Nat) (o : Obj) (h1 : W.heap[j]? = some o) (h2 : ∀ cur, o ≠ .cells cur 39 (0, 0)) => ne_of h1 h2)))))
      clear hbx hgr hlne ne_of
      gi_wp2_with (first
        | (gi_at_builtin; refine wpListIn_append_own _ rfl _ _ 34 rfl w3.heap.size 39 i0 (.agg #[.int .i64 0, .int .i64 0]) 2 16 Tryz.underlying34 hi hz0 hz1 hz2 rfl (by decide) _ _ _ rfl (hrow.1.alloc _) ⟨W.heap.size, 0, none⟩ 1 1 [.int .i64 (x1 : Int), .int .i64 (x2 : Int)] rfl rfl hnew (by simp [Value.oneCell']) (by simp only [maxLen]; omega) (by omega) (by simp; omega) ?_; intro v' w4 hown' hg4 hnil4
           have hbx4 : Blk w4 w.heap.size 34 #[.slice Av pre.length cv] := (hg4.block _ (by simp; omega) HX.out.2.2.2.1).trans ((Below.heap_alloc _ _ _ hlbW).trans HX.out.1)
           have k4 : w4.cell? ⟨w.heap.size, 0, none⟩ = some (.slice Av pre.length cv) := hbx4.cell 0
           have l4 := hbx4.frozen 0
           obtain ⟨g', cap', cur', rfl, hbase', hgb', hr1, hr2, hr3, hr4⟩ : ∃ g' cap' cur', v' = .slice (some ⟨g', 0, none⟩) (pre.length + 1) cap' ∧ w3.heap.size ≤ g' ∧ w4.heap[g']? = some (.cells cur' 39 (0, 0)) ∧ pre.length + 1 ≤ cap' ∧ cap' ≤ maxLen ∧ cur'.size = cap' * 2 ∧ cur'.toList.take ((pre.length + 1) * 2) = pre.flatMap placeC ++ [.int .i64 (x1 : Int), .int .i64 (x2 : Int)] := by
             rcases hown'.2 with ⟨_, h0⟩ | h'
             · exact absurd h0 (by omega)
             · exact h'
           have HY := Lib.hid (And.intro hown' (And.intro hg4 hbx4))
           clear hown' hg4 hnil4 hbx4)
        | (rw [Oper.semAt_eq _ _ _ (fun c h => by cases h)]; go_simp; try go_bits))
      have hg3' : (W.alloc (.cells #[.int .i64 (x1 : Int), .int .i64 (x2 : Int)] 39)).grownBy w4 (Value.slice Av pre.length cv).ownBlock := HY.out.2.1
      have hob : ∀ k, (Value.slice Av pre.length cv).ownBlock = some k → w3.heap.size ≤ k ∧ k < W.heap.size := fun k e => HX.out.2.1.1.lt k e
      obtain ⟨w5, hw5⟩ : ∃ w5, w4.setCell ⟨w.heap.size, 0, none⟩ (.slice (some ⟨g', 0, none⟩) (pre.length + 1) cap') = w5 := ⟨_, rfl⟩
      rw [hw5]
      have hg5 : w4.grownBy w5 (some w.heap.size) := by rw [← hw5]; exact grownBy_set w4 ⟨w.heap.size, 0, none⟩ _
      have hbx5 : Blk w5 w.heap.size 34 #[.slice (some ⟨g', 0, none⟩) (pre.length + 1) cap'] := by rw [← hw5]; exact HY.out.2.2.set_ 0 _
      have hkeep : ∀ k, k < W.heap.size → k ≠ w.heap.size → some k ≠ (Value.slice Av pre.length cv).ownBlock → w5.heap[k]? = W.heap[k]? := fun k h1 h2 h3 =>
        (hg5.block k (by have := hg3'.size; simp at this; omega) (fun e => h2 (by injection e with e))).trans ((hg3'.block k (by simp; omega) h3).trans (Below.heap_alloc _ _ _ h1))
      have hsz5 : W.heap.size ≤ w5.heap.size := by have h1 := hg3'.size; have h2 := hg5.size; simp at h1; omega
      have hrow5 := HY.out.1.kept hg5 (ownsRow_ne HY.out.1 HY.out.2.2 (fun cur e => by injection e with e1 e2; exact absurd e2 (by decide)))
      clear hw5
      have hgr := HX.out.2.2.1
      refine ⟨?_, ⟨⟨_, hbx5, ?_⟩, ?_⟩, ?_⟩
      · refine (((KeepsOthers.alloc W (.cells #[.int .i64 (x1 : Int), .int .i64 (x2 : Int)] 39)).trans (KeepsOthers.of_grownBy hg3' fun j o e ho => ?_)).trans (KeepsOthers.of_grownBy hg5 fun j o e ho => ?_)).from _
        · rcases HX.out.2.1.1.2 with ⟨e1, _⟩ | ⟨gg, cap, cur, e1, _, hgg, _⟩
          · rw [e1] at e; simp [Value.ownBlock] at e
          · rw [e1] at e
            simp [Value.ownBlock] at e
            subst e
            rw [Below.heap_alloc _ _ _ (Array.getElem?_eq_some_iff.1 hgg).1, hgg] at ho
            injection ho with ho
            subst ho; rfl
        · injection e with e
          subst e
          have h4 := HY.out.2.2
          unfold Blk at h4
          rw [h4] at ho
          injection ho with ho
          subst ho; rfl
      · rw [List.length_append, List.flatMap_append]
        exact ⟨hrow5, fun k e => (hrow5.lt k e).2⟩
      · refine ⟨hg5.os.trans (hg3'.os.trans hgr.os), hg5.tape.trans (hg3'.tape.trans hgr.tape), hg5.output.trans (hg3'.output.trans hgr.output), Nat.le_trans hgr.size hsz5, fun k h1 h2 => (hkeep k (by omega) (fun e => h2 (by rw [e])) (fun e => ?_)).trans (hgr.block k h1 h2)⟩
        have := hob k e.symm
        omega
      · intro k cs hk
        refine hkeep k (Array.getElem?_eq_some_iff.1 hk).1 (fun e => ?_) (HX.out.2.2.2.2 k _ hk (fun cur e => by injection e with e1 e2; exact absurd e2 (by decide)))
        subst e
        have h4 := HX.out.1
        unfold Blk at h4
        rw [h4] at hk
        injection hk with hk
        injection hk with _ h5
        exact absurd h5 (by decide)
    case done =>
      intro D W hD hI hdef
      obtain ⟨⟨vv, hbx, hrow⟩, hgr⟩ := hI
      obtain ⟨Av, cv, rfl, _⟩ := hrow.shape
      have hrg : rngs C.check C.dir C.headers (Pe.last xs) (Pe.riseS (Pe.secs xs)) = Pe.ranges xs := by
        rw [OW.out.1, OW.out.2.1, OW.out.2.2.1]
        exact rngs_eq her
      rw [hrg] at hbx hrow
      obtain ⟨rl, hrl⟩ : ∃ k, (Pe.ranges xs).length = k := ⟨_, rfl⟩
      rw [hrl] at hbx hrow
      have k0 : W.cell? ⟨w.heap.size, 0, none⟩ = some (.slice Av rl cv) := hbx.cell 0
      have l0 := hbx.frozen 0
      have HZ := Lib.hid (And.intro hbx (And.intro hrow (And.intro hgr (And.intro hdef hrl))))
      clear hbx hrow hgr hdef hrg hrl
      go_wp2_with fail
      obtain ⟨wz, hwz⟩ : ∃ x, W.setCell ⟨w.heap.size, 0, none⟩ (.slice Av rl cv) = x := ⟨_, rfl⟩
      rw [hwz]
      have hgz : W.grownBy wz (some w.heap.size) := by rw [← hwz]; exact grownBy_set W ⟨w.heap.size, 0, none⟩ _
      have hBz : Blk wz w.heap.size 34 #[.slice Av rl cv] := by rw [← hwz]; exact HZ.out.1.set_ 0 _
      have hDz : wz.heap[D]? = some (.deferred (some [])) := (hgz.block D (Array.getElem?_eq_some_iff.1 HZ.out.2.2.2.1).1 (fun e => by injection e with e; omega)).trans HZ.out.2.2.2.1
      have hgP := grownBy_putObj wz D (.deferred none)
      have hbz2 : Blk (wz.putObj D (.deferred none)) w.heap.size 34 #[.slice Av rl cv] := (putObj_other2 (by omega)).trans hBz
      refine ⟨by simp, .inl ⟨_, _, rfl, run_takeDeferred hDz, ?_⟩⟩
      refine ⟨_, results_cellTmp Tryz.results9 _ _ _ _ _ rfl (load_pairsU (hbz2.cell 0)), ?_, _, by rw [her]; rfl, fun h => absurd her h, fun _ => ?_⟩
      · have h3 : Below w.heap.size w w3 := H2.out.2.2.2.trans (H3.out.2.1.mono (by have := H2.out.2.1.size; omega))
        exact ((h3.grown HZ.out.2.2.1 (by omega) (fun j e => by injection e with e; omega)).grown hgz (by have := HZ.out.2.2.1.size; omega) (fun j e => by injection e with e; omega)).grown hgP (by have := HZ.out.2.2.1.size; have := hgz.size; omega) (fun j e => by injection e with e; omega)
      · rw [HZ.out.2.2.2.2]
        have hs := HZ.out.2.2.1.size
        refine (HZ.out.2.1.keepCells fun k cur fr h1 h2 h3 => ?_).mono (by omega) (by have := hgz.size; simpa using this)
        refine (putObj_other2 (fun e => ?_)).trans (hgz.block k h2 (fun e => by injection e with e; omega))
        subst e
        rw [HZ.out.2.2.2.1] at h3
        cases h3
  · have he' : ((er : Int) != 0) = true := by simp; omega
    have q0 : w2.cell? ⟨w.heap.size, 0, none⟩ = some (.slice none 0 0) := H2.out.2.2.1.cell 0
    have f0 := H2.out.2.2.1.frozen 0
    go_wp2_with fail
    have hB3 : Blk (w2.setCell ⟨w.heap.size, 0, none⟩ (.slice none 0 0)) w.heap.size 34 #[.slice none 0 0] := H2.out.2.2.1.set_ 0 _
    have q3 := hB3.cell 0
    refine ⟨_, results_cellTmp Tryz.results9 _ _ _ _ _ rfl (load_pairsU q3), H2.out.2.2.2.setCell (Nat.le_refl _) _, _, by rw [her]; rfl, fun _ => rfl, fun h => absurd (her.symm.trans h) he⟩
end Go.Proofs.YtmpladnglfiejaaGreatDoor
