/- The measure's Digest. -/
import Derived.Test.YtmpladnglfiejaaGreatDoorMeR3
import Derived.Test.YtmpladnglfiejaaGreatDoorSh11
import Derived.Test.YtmpladnglfiejaaGreatDoorShI
namespace Go.Proofs.YtmpladnglfiejaaGreatDoor
open Go.RowKit Go.Shelf
attribute [local go_sem] Oper.semAt_some
set_option maxRecDepth 100000
set_option linter.unusedVariables false
set_option linter.unusedSimpArgs false
theorem results_cells2 {fn : Func} {t u x : Tmp} {ty ty' : TypeId} (h : fn.results = #[.cell t ty, .cell u ty', .tmp x]) (tmps : Array Value) (P : Program) (w : World) (ad ad' : Addr) (v v' : Value)
    (ha : tmps.getD t undef = .pointer (some ad)) (hl : (loadVar ty ad).run P w = .ok v w) (ha' : tmps.getD u undef = .pointer (some ad')) (hl' : (loadVar ty' ad').run P w = .ok v' w) : (results fn tmps).run P w = .ok (.tuple #[v, v', tmps.getD x undef]) w := by
  simp only [Array.getD_eq_getD_getElem?] at ha ha'
  simp [results, h, ha, hl, ha', hl', asAddr]
/-- What Digest answers. -/
def DigestOut (xs : List UInt8) (w : World) (e : Ending) (w' : World) : Prop :=
  Below w.heap.size w w' ∧ ∃ C : IV, e = .returned (.tuple #[.agg ((if Pe.err xs = 0 then Sha.sum (Pe.hashed xs) else List.replicate 32 0).map u8v).toArray, C.val, .int .i64 (Pe.err xs : Int)]) ∧ C.One ∧ (Pe.err xs ≠ 0 → C = IV.zero) ∧ (Pe.err xs = 0 → ImgOwn xs C w.heap.size w')
/-- While the places come: the state has taken their bytes. -/
structure DI (xs : List UInt8) (g : Nat) (w5 : World) (pre : List (Nat × Nat)) (W : World) : Prop where
  st : StX W g g (Pe.hashedOf xs pre) (Pe.hashedOf xs pre).length
  below : Below g w5 W
  kt : KT g w5 W
theorem StX.lt {W : World} {g lo nn : Nat} {b : List UInt8} (h : StX W g lo b nn) : g < W.heap.size := by
  obtain ⟨_, v, h2, _⟩ := h
  exact h2.lt
theorem DI.after {xs : List UInt8} {g : Nat} {w5 X Y : World} {pre : List (Nat × Nat)} (h : DI xs g w5 pre X) (hb : Below X.heap.size X Y) : DI xs g w5 pre Y :=
  ⟨h.st.below hb, h.below.trans (hb.mono (Nat.le_of_lt h.st.lt)), h.kt.trans (KT.of_below hb)⟩
theorem DI.putObj {xs : List UInt8} {g l : Nat} {w5 W : World} {pre : List (Nat × Nat)} {o o' : Obj} (h : DI xs g w5 pre W) (hg : g < w5.heap.size) (hl : w5.heap.size ≤ l) (ho : W.heap[l]? = some o) (hoc : o.isCells = false) : DI xs g w5 pre (W.putObj l o') := by
  obtain ⟨⟨h1, v, h2, h3⟩, h4, h5⟩ := h
  refine ⟨⟨h1, v, (putObj_other2 (by omega)).trans h2, (ownB_keepU8 h3 fun k cur fr _ _ hk => putObj_other2 (fun e => by
    subst e
    rw [ho] at hk
    injection hk with hk
    subst hk
    cases hoc)).mono (Nat.le_refl _) (by simp)⟩, h4.grown (grownBy_putObj W l o') (Nat.le_trans (Nat.le_of_lt hg) (by have := h4.size; exact this)) (fun j e => by injection e with e; omega), fun k o hk ht hkg => (putObj_other2 (fun e => ?_)).trans (h5 k o hk ht hkg)⟩
  have := (Array.getElem?_eq_some_iff.1 hk).1
  omega
/-- The slots of the drawn region of a round. -/
def DgJ (g n c : Nat) (A : Option Addr) (v : Nat × Nat) : Nat → Value → World → Prop
  | 0, u, _ => u = .func (.func 20) #[.pointer (some ⟨g, 0, none⟩)] #[]
  | 1, u, _ => u = .slice A n c
  | 2, u, _ => u = .int .i64 (v.1 : Int)
  | 3, u, _ => u = .int .i64 (v.2 : Int)
  | 4, u, _ => u = .slice (if c = v.1 then A else A.map (·.add v.1)) (v.2 - v.1) (c - v.1)
  | _, _, _ => True
theorem load_fn {w : World} {ad : Addr} {f : FuncId} {b : Array Value} (h : w.cell? ad = some (.func (.func f) b #[])) : (loadVar 51 ad).run Tryz.prog w = .ok (.func (.func f) b #[]) w := by
  simp [go_sem, h, Tryz.underlying51]
theorem cut2_run {n c : Nat} {A : Option Addr} (lo hi : Nat) (h1 : lo ≤ hi) (h2 : hi ≤ c) (W : World) : (Instr.sliceAt 22 (.slice A n c) (some (.int .i64 (lo : Int))) (some (.int .i64 (hi : Int))) none).run Tryz.prog W = .ok (.slice (if c = lo then A else A.map (·.add lo)) (hi - lo) (c - lo)) W := by
  simp [go_sem, Tryz.underlying22, show (lo : Int) ≤ hi by omega, show (hi : Int) ≤ c by omega]
/-- What each step of Digest's last region keeps: all but the two results' variables; those keep their kinds, and what was put there. -/
structure DgR (b1 b2 : Nat) (S : List Int) (C : IV) (x y : World) : Prop where
  os : y.os = x.os
  tape : y.tape = x.tape
  output : y.output = x.output
  size : x.heap.size ≤ y.heap.size
  kept : ∀ k, k < x.heap.size → k ≠ b1 → k ≠ b2 → y.heap[k]? = x.heap[k]?
  r1 : (∃ l : List Int, l.length = 32 ∧ Blk x b1 25 (l.map u8v).toArray) → ∃ l : List Int, l.length = 32 ∧ Blk y b1 25 (l.map u8v).toArray
  r2 : (∃ D, Bi x b2 D) → ∃ D, Bi y b2 D
  s1 : Blk x b1 25 (S.map u8v).toArray → Blk y b1 25 (S.map u8v).toArray
  s2 : Bi x b2 C → Bi y b2 C
theorem DgR.of_below {b1 b2 : Nat} {S : List Int} {C : IV} {x y : World} (h : Below x.heap.size x y) : DgR b1 b2 S C x y :=
  ⟨h.os, h.tape, h.output, h.size, fun k hk _ _ => h.block k hk, fun ⟨l, h1, h2⟩ => ⟨l, h1, h2.below h h2.lt⟩, fun ⟨D, h1⟩ => ⟨D, Blk.below h1 h (Blk.lt h1)⟩, fun h1 => h1.below h h1.lt, fun h1 => Blk.below h1 h (Blk.lt h1)⟩
theorem DgR.trans {b1 b2 : Nat} {S : List Int} {C : IV} {x y z : World} (h : DgR b1 b2 S C x y) (k : DgR b1 b2 S C y z) : DgR b1 b2 S C x z :=
  ⟨k.os.trans h.os, k.tape.trans h.tape, k.output.trans h.output, Nat.le_trans h.size k.size, fun j h1 h2 h3 => (k.kept j (Nat.lt_of_lt_of_le h1 h.size) h2 h3).trans (h.kept j h1 h2 h3), fun e => k.r1 (h.r1 e), fun e => k.r2 (h.r2 e), fun e => k.s1 (h.s1 e), fun e => k.s2 (h.s2 e)⟩
theorem DgR.set1 {b1 b2 : Nat} {S : List Int} {C : IV} {x y : World} (hne : b1 ≠ b2) (hS : S.length = 32) (hg : x.grownBy y (some b1)) (hy : Blk y b1 25 (S.map u8v).toArray) : DgR b1 b2 S C x y :=
  ⟨hg.os, hg.tape, hg.output, hg.size, fun k hk h1 _ => hg.block k hk (fun e => h1 (by injection e)), fun _ => ⟨S, hS, hy⟩, fun ⟨D, h1⟩ => ⟨D, Blk.grown h1 hg (fun e => hne (by injection e with e; exact e.symm))⟩, fun _ => hy, fun h1 => Blk.grown h1 hg (fun e => hne (by injection e with e; exact e.symm))⟩
theorem DgR.set2 {b1 b2 : Nat} {S : List Int} {C : IV} {x y : World} (hne : b1 ≠ b2) (hg : x.grownBy y (some b2)) (hy : Bi y b2 C) : DgR b1 b2 S C x y :=
  ⟨hg.os, hg.tape, hg.output, hg.size, fun k hk _ h1 => hg.block k hk (fun e => h1 (by injection e)), fun ⟨l, h1, h2⟩ => ⟨l, h1, h2.grown hg (fun e => hne (by injection e))⟩, fun _ => ⟨C, hy⟩, fun h1 => h1.grown hg (fun e => hne (by injection e)), fun _ => hy⟩
def DgL (b1 b2 g : Nat) (S : List Int) (C : IV) : Nat → Value → World → Prop
  | 0, u, _ => u = .pointer (some ⟨g, 0, none⟩)
  | 1, u, _ => u = .agg (S.map u8v).toArray
  | 2, u, _ => u = C.val
  | 3, _, W => Blk W b1 25 (S.map u8v).toArray
  | 4, _, W => Bi W b2 C
  | 5, u, _ => u = .int .i64 0
  | _, _, _ => True
theorem DgL.mono {b1 b2 g : Nat} {S : List Int} {C : IV} : ∀ (i : Nat) (v : Value) (x y : World), DgR b1 b2 S C x y → DgL b1 b2 g S C i v x → DgL b1 b2 g S C i v y := by
  intro i v x y hR h
  unfold DgL at h ⊢
  split <;> first | trivial | exact h | exact hR.s1 h | exact hR.s2 h
set_option maxHeartbeats 4000000 in
theorem meDigest_any (A : Option Addr) (n c : Nat) (xs : List UInt8) (w : World) (hr : Rd w w.heap.size A n c xs) (hn : n ≤ 16777216) :
    Calls Tryz.prog 7 #[.slice A n c] w (DigestOut xs w) := by
  have hl := hr.len
  have H := Lib.hid hr
  clear hr
  refine (callsIn_wide (n := 5)).1 ?_
  refine callsIn_of_wp_marks Tryz.func7 rfl trivial ?_ rfl
  simp only [Tryz.ntmps7, List.size_toArray, List.length_cons, List.length_nil, Nat.reduceAdd, Nat.reduceSub, Array.replicate_succ, Array.replicate_zero, List.push_toArray, List.append_toArray, List.nil_append, List.cons_append]
  refine wpIn_wide.2 ?_
  go_wp2_with fail
  refine (pe_parse_any A n c xs _ (((H.out.alloc (Nat.le_refl _) _).alloc (by simp) _).alloc (by simp; omega) _ |>.more (by simp; omega))).mono ?_
  rintro e w1 ⟨hb1, C, rfl, hone, hz, ho⟩
  have hs0 := hb1.size
  simp only [World.size_alloc] at hs0
  have hb01 : Below w.heap.size w w1 := ((((Below.refl _ _).alloc (Nat.le_refl _) _).alloc (by simp) _).alloc (by simp; omega) _).trans (hb1.mono (by simp; omega))
  have hA1 : Blk w1 w.heap.size 22 #[.slice A n c] := (((Blk.new w _ _).alloc _).alloc _).below hb1 (by simp; omega)
  have hD1 : Blk w1 (w.heap.size + 1) 25 ((List.replicate 32 0).map u8v).toArray := by
    have h := Blk.new (w.alloc (.cells #[.slice A n c] 22)) 25 ((List.replicate 32 0).map u8v).toArray
    rw [World.size_alloc] at h
    exact (h.alloc _).below hb1 (by simp)
  have hI1 : Bi w1 (w.heap.size + 1 + 1) IV.zero := by
    have h := Blk.new ((w.alloc (.cells #[.slice A n c] 22)).alloc (.cells ((List.replicate 32 0).map u8v).toArray 25)) 30 IV.zero.cells
    rw [World.size_alloc, World.size_alloc] at h
    exact h.below hb1 (by simp)
  have hr1 : Rd w1 w1.heap.size A n c xs := H.out.up hb01
  have hoI : Pe.err xs = 0 → ImgOwn xs C (w.heap.size + 1 + 1 + 1) w1 := fun h => by have := ho h; simpa using this
  have H1 := Lib.hid (And.intro hone (And.intro hz (And.intro hoI (And.intro hb01 (And.intro hA1 (And.intro hD1 (And.intro hI1 hr1)))))))
  obtain ⟨er, her⟩ : ∃ k, Pe.err xs = k := ⟨_, rfl⟩
  rw [her]
  clear hone hz ho hoI hb01 hA1 hD1 hI1 hb1 hr1
  obtain ⟨⟨A4, n4, c4, e4⟩, ⟨A7, n7, c7, e7⟩⟩ := H1.out.1
  have E7 := Lib.hid (And.intro e4 e7)
  clear e4 e7
  go_upto_region 2 with (first
    | ((with_reducible refine at_store_img ?_); refine wpList_store_img rfl _ _ rfl w1.heap.size IV.zero C rfl rfl (Blk.new w1 _ _) H1.out.1 ?_; intro w2 hB2 hg2)
    | fail)
  have hw12 : w1.grownBy w2 (some w1.heap.size) := ⟨hg2.os, hg2.tape, hg2.output, Nat.le_trans (by simp) hg2.size, fun k h1 h2 => (hg2.block k (by simp; omega) h2).trans (Below.heap_alloc _ _ k h1)⟩
  have hb12 : Below w1.heap.size w1 w2 := (Below.refl _ _).grown hw12 (Nat.le_refl _) (fun j e => by injection e with e; omega)
  have hA2 := H1.out.2.2.2.2.1.below hb12 (by omega)
  have hD2 := H1.out.2.2.2.2.2.1.below hb12 (by omega)
  have hI2 : Bi w2 (w.heap.size + 1 + 1) IV.zero := H1.out.2.2.2.2.2.2.1.below hb12 (by omega)
  have hb02 : Below w.heap.size w w2 := H1.out.2.2.2.1.trans (hb12.mono (by omega))
  have H2 := Lib.hid (And.intro hB2 (And.intro hb12 (And.intro hA2 (And.intro hD2 (And.intro hI2 hb02)))))
  clear hB2 hg2 hw12 hb12 hA2 hD2 hI2 hb02
  by_cases he : er = 0
  · subst he
    have ow := H1.out.2.2.1 her
    obtain ⟨hplus, hck, hdr, hhd, htb, hln⟩ := ow.nums
    obtain ⟨Ab, cb, hsec, hrd1⟩ := ow.secs.rdS
    have hbk := ow.secs.1.lt
    have hsl := (Array.getElem?_eq_some_iff.1 H2.out.1).1
    have OW := Lib.hid (And.intro hck (And.intro hdr (And.intro hhd (And.intro hln (And.intro hsec (And.intro hrd1 (And.intro hbk ow.secs)))))))
    clear ow hplus hck hdr hhd htb hln hsec hrd1 hbk
    go_wp2_with fail
    refine (new_any w2).mono ?_
    rintro e w3 ⟨rfl, hb23, hst3⟩
    have hst3l := hst3.lt
    have HN := Lib.hid (And.intro hb23 hst3)
    clear hb23 hst3
    have hA4 : ∀ W, Below w3.heap.size w3 W → W.cell? ⟨w.heap.size, 0, none⟩ = some (.slice A n c) := fun W hW => ((H2.out.2.2.1.below HN.out.1 (by have := H2.out.2.1.size; omega)).below hW (by have := H2.out.2.1.size; have := HN.out.1.size; omega)).cell 0
    have qA := hA4 _ ((Below.refl w3.heap.size w3).alloc (Nat.le_refl _) (.cells #[.func (.func 20) #[.pointer (some ⟨w2.heap.size, 0, none⟩)] #[]] 51))
    have hstF : (store ⟨w3.heap.size, 0, none⟩ (.func (.func 20) #[.pointer (some ⟨w2.heap.size, 0, none⟩)] #[])).run Tryz.prog (w3.alloc (.cells #[.nilFunc] 51)) = .ok () (w3.alloc (.cells #[.func (.func 20) #[.pointer (some ⟨w2.heap.size, 0, none⟩)] #[]] 51)) := by
      rw [run_store _ _ _ _ _ rfl]
      simp [go_sem]
    go_wp2_with (first
      | ((with_reducible refine at_load_img ?_); refine wpList_load_img rfl _ rfl w1.heap.size C rfl (((H2.out.1.below HN.out.1 (by omega)).alloc _)) ?_)
      | fail)
    refine (ranges_any C n _).mono ?_
    rintro e w5 ⟨rfl, hw5⟩
    have hs5 : w5.heap.size = w3.heap.size + 3 := by rw [hw5]; simp
    have hb35 : Below w3.heap.size w3 w5 := by rw [hw5]; exact (((Below.refl _ _).alloc (Nat.le_refl _) _).alloc (by simp) _).alloc (by simp; omega) _
    have hF5 : Blk w5 w3.heap.size 51 #[.func (.func 20) #[.pointer (some ⟨w2.heap.size, 0, none⟩)] #[]] := by rw [hw5]; exact ((Blk.new w3 _ _).alloc _).alloc _
    have hP5 : Bi w5 (w3.heap.size + 1) C := by
      have h := Blk.new (w3.alloc (.cells #[.func (.func 20) #[.pointer (some ⟨w2.heap.size, 0, none⟩)] #[]] 51)) 30 C.cells
      rw [World.size_alloc] at h
      rw [hw5]
      exact h.alloc _
    have hN5 : Blk w5 (w3.heap.size + 2) 3 #[.int .i64 (n : Int)] := by
      have h := Blk.new ((w3.alloc (.cells #[.func (.func 20) #[.pointer (some ⟨w2.heap.size, 0, none⟩)] #[]] 51)).alloc (.cells C.cells 30)) 3 #[.int .i64 (n : Int)]
      rw [World.size_alloc, World.size_alloc] at h
      rw [hw5]
      exact h
    have H5 := Lib.hid (And.intro hs5 (And.intro hb35 (And.intro hF5 (And.intro hP5 hN5))))
    clear hs5 hb35 hF5 hP5 hN5 hw5 hstF qA hA4
    go_wp2_with fail
    refine (wpIn_wide (n := 5)).1 ?_
    have hb := meB her (by omega)
    have hg5 : w2.heap.size < w5.heap.size := by have := H5.out.1; omega
    refine range_ranges (by omega) (w3.heap.size + 1) (w3.heap.size + 1 + 1) rfl rfl C Ab (Pe.secs xs).length cb (Pe.secs xs) (Pe.riseS (Pe.secs xs)) OW.out.2.2.2.2.1 (by have := hb.many; omega) (fun S' h1 h2 => Pe.sorted_eq her h1 h2) n (Pe.last xs) (by rw [OW.out.2.2.2.1, ← hl]; exact last_eq her)
      (by rw [OW.out.1]; exact hb.ck) (by rw [OW.out.2.1]; exact hb.dr) (by rw [OW.out.2.2.1]; exact hb.hd) (by rw [OW.out.2.2.2.1]; exact hb.ln) (by omega) hb.small
      (DI xs w2.heap.size w5) (fun s X Y h hb => h.after hb) (fun s W l o o' h h1 h2 h3 => h.putObj hg5 h1 h2 h3) ?hIb ?h0 (fun v a' => a' = ({ tmps := #[.slice A n c, .pointer (some ⟨w.heap.size, 0, none⟩), .pointer (some ⟨w.heap.size + 1, 0, none⟩), .pointer (some ⟨w.heap.size + 1 + 1, 0, none⟩), .int .i64 0, .pointer (some ⟨w1.heap.size, 0, none⟩), .int .i64 0, .pointer (some ⟨w2.heap.size, 0, none⟩), .pointer (some ⟨w3.heap.size, 0, none⟩), .int .i64 (v.1 : Int), .int .i64 (v.2 : Int), .tuple #[C.val, .int .i64 0], .slice A n c, .tuple #[C.val, .int .i64 0], C.val, .int .i64 0, .int .i64 0, .bool false, undef, undef, undef, .pointer (some ⟨w2.heap.size, 0, none⟩), .pointer (some ⟨w2.heap.size, 0, none⟩), .func (.func 20) #[.pointer (some ⟨w2.heap.size, 0, none⟩)] #[], C.val, .slice A n c, .int .i64 (n : Int), .func (.func 36) #[] #[.pointer (some ⟨w3.heap.size + 1, 0, none⟩), .pointer (some ⟨w3.heap.size + 1 + 1, 0, none⟩)], .int .i64 (v.1 : Int), .int .i64 (v.2 : Int), undef, undef, undef, undef, undef, undef, undef, undef, undef], defers := [] } : Act)) ?assign ?body ?done
    case hIb =>
      intro pre X h
      have hs12 := H2.out.2.1.size
      have hne1 : ∀ (cs : Array Value) (t : TypeId), t ≠ 5 → ∀ cs' fr, Obj.cells cs t (0, 0) ≠ .cells cs' 5 fr := fun cs t ht cs' fr e => by injection e with _ e2; exact ht e2
      refine ⟨fun o => ?_, ?_, ?_⟩
      · have hB : Bi X (w3.heap.size + 1) C := (h.kt _ _ H5.out.2.2.2.1 (hne1 _ _ (by decide)) (by omega)).trans H5.out.2.2.2.1
        exact hB.cell o
      · have hB : Blk X (w3.heap.size + 1 + 1) 3 #[.int .i64 (n : Int)] := (h.kt _ _ H5.out.2.2.2.2 (hne1 _ _ (by decide)) (by omega)).trans H5.out.2.2.2.2
        exact hB.cell 0
      · have hX := h.below.size
        have hX2 := h.st.lt
        have ho := OW.out.2.2.2.2.2.2.2.keep (w' := X) fun k h1 h2 => (h.below.block k (by omega)).trans ((H5.out.2.1.block k (by omega)).trans ((HN.out.1.block k (by omega)).trans (H2.out.2.1.block k h2)))
        obtain ⟨A', c', e', hr'⟩ := ho.rdS
        rw [OW.out.2.2.2.2.1] at e'
        injection e' with e1 e2 e3
        subst e1 e3
        exact hr'.more (by omega)
    case h0 =>
      have hrest : Sha.restOf (Pe.hashedOf xs []) = [] := by simp [Sha.restOf, Pe.hashedOf]
      refine ⟨⟨Nat.le_refl _, .slice none 0 0, ?_, by rw [hrest]; exact OwnB.nil_⟩, Below.refl _ _, fun k o hk _ _ => rfl⟩
      have h1 : Bst w3 w2.heap.size true Sha.ktab Sha.htab (.slice none 0 0) 0 := HN.out.2
      have hh : Sha.hsN (Pe.hashedOf xs []) = Sha.htab := by simp [Sha.hsN, Pe.hashedOf, Sha.absorb]
      have hh0 : (((Pe.hashedOf xs []).length : Nat) : Int) = 0 := by simp [Pe.hashedOf]
      rw [hh, hh0]
      exact h1.below H5.out.2.1 hst3l
    case assign =>
      intro l v W K hK
      have HK := Lib.hid hK
      clear hK
      unfold pairV
      gi_wp2
      exact HK.out _ rfl
    case body =>
      rintro l pre v post a' W hlN hI hpre rfl
      gi_wp2_with fail
      have hfit : v.1 ≤ v.2 ∧ v.2 ≤ xs.length := by
        refine ranges_fit her v ?_
        rw [← rngs_eq her, ← OW.out.1, ← OW.out.2.1, ← OW.out.2.2.1, ← hpre]
        simp
      have hqF : W.drew.cell? ⟨w3.heap.size, 0, none⟩ = some (.func (.func 20) #[.pointer (some ⟨w2.heap.size, 0, none⟩)] #[]) := by
        have hB := (hI.kt _ _ H5.out.2.2.1 (fun cs' fr e => by injection e with _ e2; exact absurd e2 (by decide)) (by omega)).trans H5.out.2.2.1
        exact Blk.cell hB 0
      have hqA : W.drew.cell? ⟨w.heap.size, 0, none⟩ = some (.slice A n c) := by
        have hs12 := H2.out.2.1.size
        have hB := (hI.below.block w.heap.size (by omega)).trans ((H5.out.2.1.block _ (by omega)).trans ((HN.out.1.block _ (by omega)).trans H2.out.2.2.1))
        exact Blk.cell hB 0
      have hcapA := H.out.cap
      have hcapM := H.out.capm
      refine wpIn_region_reach 5 (DgJ w2.heap.size n c A v) (fun W' => W' = W.drew) (fun x y => y = x) rfl (fun i u x y h1 h2 => by subst h1; exact h2) (fun x y h1 h2 => h2.trans h1) (by show dstsOk _ 39 = true; decide +kernel) (by decide +kernel) (by decide +kernel) rfl (by decide +kernel) rfl ⟨?_, ?_, ?_, ?_, ?_, trivial⟩ ?_
      · intro a' W' hfr hG hdep
        subst hG
        exact FI_load rfl (hfr 8 (by decide +kernel)) (load_fn hqF) ⟨_, rfl, fun h => absurd h (by simp), rfl, rfl⟩
      · intro a' W' hfr hG hdep
        subst hG
        exact FI_load rfl (hfr 1 (by decide +kernel)) (load_bytesU hqA) ⟨_, rfl, fun h => absurd h (by simp), rfl, rfl⟩
      · intro a' W' hfr hG hdep
        exact FI_move rfl (hfr 9 (by decide +kernel)) ⟨_, rfl, fun h => absurd h (by simp), rfl, rfl⟩
      · intro a' W' hfr hG hdep
        exact FI_move rfl (hfr 10 (by decide +kernel)) ⟨_, rfl, fun h => absurd h (by simp), rfl, rfl⟩
      · intro a' W' hfr hG hdep
        have d1 : a'.eval (.tmp 31) = .slice A n c := hdep 1 (by decide +kernel)
        have d2 : a'.eval (.tmp 32) = .int .i64 (v.1 : Int) := hdep 2 (by decide +kernel)
        have d3 : a'.eval (.tmp 33) = .int .i64 (v.2 : Int) := hdep 3 (by decide +kernel)
        refine FI_val (v := .slice (if c = v.1 then A else A.map (·.add v.1)) (v.2 - v.1) (c - v.1)) (by simp) (by simp) ?_ ⟨_, rfl, fun h => absurd h (by simp), rfl, rfl⟩
        simp only [execOp, Option.map_some, Option.map_none, d1, d2, d3]
        simp [cut2_run v.1 v.2 hfit.1 (by omega : v.2 ≤ c)]
      · intro o ho a' W' hdd hsz hfr hG hJ
        have e1 : o.op = .call { callee := .value (.tmp 30), args := #[.tmp 34], argTypes := #[22] } := by cases ho; rfl
        subst hG
        have j0 : a'.eval (.tmp 30) = .func (.func 20) #[.pointer (some ⟨w2.heap.size, 0, none⟩)] #[] := hJ 0 (by decide)
        have j4 : a'.eval (.tmp 34) = .slice (if c = v.1 then A else A.map (·.add v.1)) (v.2 - v.1) (c - v.1) := hJ 4 (by decide)
        have hbW : Below w.heap.size w W := H2.out.2.2.2.2.2.trans ((HN.out.1.mono (by have := H2.out.2.2.2.2.2.size; exact this)).trans ((H5.out.2.1.mono (by have := H2.out.2.2.2.2.2.size; have := HN.out.1.size; omega)).trans (hI.below.mono (by have := H2.out.2.2.2.2.2.size; exact this))))
        have hrW : Rd W w.heap.size A n c xs := H.out.below hbW
        have hrC := hrW.cut hfit.1 (by omega : v.2 ≤ n)
        have hcl : ((xs.take v.2).drop v.1).length = v.2 - v.1 := by rw [List.length_drop, List.length_take]; omega
        have hcr : Pe.cutR xs v = (xs.take v.2).drop v.1 := by unfold Pe.cutR; rw [List.drop_take]
        have hpl : pre.length ≤ 100 := by
          have h1 := congrArg List.length hpre
          have h2 := rngs_len C.check C.dir C.headers (Pe.last xs) (Pe.riseS (Pe.secs xs))
          have h3 := (Pe.riseS_perm (Pe.secs xs)).length_eq
          have h4 := hb.many
          simp only [List.length_append, List.length_cons] at h1
          omega
        have hhl := hashedOf_le xs pre
        have hhm : pre.length * xs.length ≤ 100 * 16777216 := Nat.mul_le_mul hpl (by omega)
        have hs2 := H2.out.2.2.2.2.2.size
        have hstW : StX W.drew w2.heap.size w2.heap.size (Pe.hashedOf xs pre) (Pe.hashedOf xs pre).length := hI.st.below (Below.refl _ _).drew
        have hwr := shaWrite_any w2.heap.size w2.heap.size (Pe.hashedOf xs pre).length (if c = v.1 then A else A.map (·.add v.1)) (v.2 - v.1) (c - v.1) w.heap.size (Pe.hashedOf xs pre) ((xs.take v.2).drop v.1) W.drew hstW hcl (fun u => ((hrC.drew).setCell (p := ⟨w2.heap.size, 74, none⟩) (by show w.heap.size ≤ w2.heap.size; omega) u).rds) (by have := hI.st.lt; exact Nat.le_of_lt this) (by omega) (by omega)
        refine FI_method e1 j0 j4 Tryz.func20 rfl (by decide) trivial (by omega) (CallsIn.inRound l ((callsIn_wide.2 hwr).mono ?_))
        rintro e W2 ⟨rfl, hst2, hbk, hkt⟩
        refine ⟨_, rfl, ?_⟩
        have hkt' : KT w2.heap.size W W2 := hkt
        have hbk' : Below w2.heap.size W W2 := ((Below.refl _ _).drew).trans hbk
        have hho : Pe.hashedOf xs (pre ++ [v]) = Pe.hashedOf xs pre ++ (xs.take v.2).drop v.1 := by
          unfold Pe.hashedOf
          rw [List.flatMap_append, List.flatMap_cons, List.flatMap_nil, List.append_nil, hcr]
        refine ⟨⟨hbk'.size, fun k o hB hk hoc => (hkt' k o hk (fun cs fr e => by subst e; cases hoc) (by omega)).trans hk⟩, ⟨?_, hI.below.trans hbk', hI.kt.trans hkt'⟩, fun k cs hk => hkt' k _ hk (fun cs' fr e => by injection e with _ e2; exact absurd e2 (by decide)) (fun e => ?_)⟩
        · rw [hho, List.length_append]
          exact hst2
        · subst e
          obtain ⟨_, v0, hB0, _⟩ := hI.st
          unfold Bst Blk at hB0
          rw [hB0] at hk
          injection hk with hk
          injection hk with _ h5
          exact absurd h5 (by decide)
    case done =>
      intro D W hD hI hdef
      have hrg : rngs C.check C.dir C.headers (Pe.last xs) (Pe.riseS (Pe.secs xs)) = Pe.ranges xs := by
        rw [OW.out.1, OW.out.2.1, OW.out.2.2.1]
        exact rngs_eq her
      rw [hrg] at hI
      have hsW := hI.below.size
      have hgW := hI.st.lt
      have hs12 := H2.out.2.1.size
      have hs23 := HN.out.1.size
      have hs35 := H5.out.1
      have hlift : ∀ k, k < w2.heap.size → W.heap[k]? = w2.heap[k]? := fun k hk => (hI.below.block k hk).trans ((H5.out.2.1.block k (by omega)).trans (HN.out.1.block k hk))
      have hDW : Blk W (w.heap.size + 1) 25 ((List.replicate 32 0).map u8v).toArray := (hlift _ (by omega)).trans H2.out.2.2.2.1
      have hIW : Bi W (w.heap.size + 1 + 1) IV.zero := (hlift _ (by omega)).trans H2.out.2.2.2.2.1
      have hCW : Bi W w1.heap.size C := (hlift _ hsl).trans H2.out.1
      obtain ⟨S, hS⟩ : ∃ S, Sha.sum (Pe.hashed xs) = S := ⟨_, rfl⟩
      have hSl : S.length = 32 := by rw [← hS]; unfold Sha.sum; rw [List.length_map, List.length_range]
      have hhl : (Pe.hashed xs).length ≤ 1099511627000 := by
        have h1 := hashedOf_le xs (Pe.ranges xs)
        have h2 := rngs_len C.check C.dir C.headers (Pe.last xs) (Pe.riseS (Pe.secs xs))
        rw [hrg] at h2
        have h3 := (Pe.riseS_perm (Pe.secs xs)).length_eq
        have h4 := hb.many
        have h5 : (Pe.ranges xs).length * xs.length ≤ 100 * 16777216 := Nat.mul_le_mul (by omega) (by omega)
        have h6 : (Pe.hashed xs).length = (Pe.hashedOf xs (Pe.ranges xs)).length := rfl
        omega
      have HW := Lib.hid (And.intro hI (And.intro hdef (And.intro hlift (And.intro hDW (And.intro hIW (And.intro hCW (And.intro hS (And.intro hSl hhl))))))))
      clear hdef hlift hDW hIW hCW hS hSl hhl hrg hI
      go_upto_region 10 with fail
      refine wp_region_marked (DgL (w.heap.size + 1) (w.heap.size + 1 + 1) w2.heap.size S C) (fun W' => DgR (w.heap.size + 1) (w.heap.size + 1 + 1) S C W W') (DgR (w.heap.size + 1) (w.heap.size + 1 + 1) S C) rfl DgL.mono (fun x y h1 h2 => h1.trans h2) (by show dstsOk _ 39 = true; decide +kernel) (by decide +kernel) (by decide +kernel) (DgR.of_below (Below.refl _ _).drew) ⟨?_, ?_, ?_, ?_, ?_, ?_, trivial⟩ ?_
      · intro a' W' hfr hG hdep
        have d7 : a'.eval (.tmp 7) = .pointer (some ⟨w2.heap.size, 0, none⟩) := hfr 7 (by decide +kernel)
        exact J_of (by simp) (fun _ => rfl) (F_move rfl d7 trivial (DgR.of_below (Below.refl _ _)))
      · intro a' W' hfr hG hdep
        have d36 : a'.eval (.tmp 36) = .pointer (some ⟨w2.heap.size, 0, none⟩) := hdep 0 (by decide +kernel)
        have hst' : StX W' w2.heap.size w2.heap.size (Pe.hashed xs) (Pe.hashed xs).length := by
          obtain ⟨h1, v0, h2, h3⟩ := HW.out.1.st
          exact ⟨h1, v0, (hG.kept _ hgW (by omega) (by omega)).trans h2, (ownB_keepU8 h3 fun k cur fr hk1 hk2 hk => hG.kept k hk2 (by omega) (by omega)).mono (Nat.le_refl _) hG.size⟩
        refine J_call (by simp) rfl Tryz.func22 rfl (by decide) (args := #[.pointer (some ⟨w2.heap.size, 0, none⟩)]) (by simp only [List.map_toArray, List.map_cons, List.map_nil, d36]) (sum_any w2.heap.size w2.heap.size (Pe.hashed xs) W' hst' HW.out.2.2.2.2.2.2.2.2) ?_
        rintro e w' ⟨rfl, hb⟩
        exact ⟨_, rfl, by rw [HW.out.2.2.2.2.2.2.1]; rfl, DgR.of_below hb⟩
      · intro a' W' hfr hG hdep
        have d5 : a'.eval (.tmp 5) = .pointer (some ⟨w1.heap.size, 0, none⟩) := hfr 5 (by decide +kernel)
        have hC' : Bi W' w1.heap.size C := (hG.kept _ (by omega) (by omega) (by omega)).trans HW.out.2.2.2.2.2.1
        exact J_of (by simp) (fun _ => rfl) (F_load rfl d5 (load_img hC') trivial (DgR.of_below (Below.refl _ _)))
      · intro a' W' hfr hG hdep
        obtain ⟨l1, hl1, hB1⟩ := hG.r1 ⟨_, rfl, HW.out.2.2.2.1⟩
        have d37 : a'.eval (.tmp 37) = .agg (S.map u8v).toArray := hdep 1 (by decide +kernel)
        have d2 : a'.eval (.tmp 2) = .pointer (some ⟨w.heap.size + 1, 0, none⟩) := hfr 2 (by decide +kernel)
        have hSR := setRow_blk (ds := (S.map u8v).toArray) hB1
        exact wp_store_row 25 _ _ rfl _ _ _ d2 d37 (store_b32 hl1 HW.out.2.2.2.2.2.2.2.1 hB1) ⟨undef, rfl, fun _ => rfl, hSR.1, DgR.set1 (by omega) HW.out.2.2.2.2.2.2.2.1 hSR.2 hSR.1⟩
      · intro a' W' hfr hG hdep
        obtain ⟨D2, hB2⟩ := hG.r2 ⟨_, HW.out.2.2.2.2.1⟩
        have d38 : a'.eval (.tmp 38) = C.val := hdep 2 (by decide +kernel)
        have d3 : a'.eval (.tmp 3) = .pointer (some ⟨w.heap.size + 1 + 1, 0, none⟩) := hfr 3 (by decide +kernel)
        exact wp_store_row 30 _ _ rfl _ _ _ d3 d38 (run_put_img hB2 C H1.out.1) ⟨undef, rfl, fun _ => rfl, (setRow_img hB2).1, DgR.set2 (by omega) (setRow_img hB2).2 (setRow_img hB2).1⟩
      · intro a' W' hfr hG hdep
        exact J_of (by simp) (fun _ => rfl) (F_val (by simp [execOp, Act.eval]) trivial (DgR.of_below (Below.refl _ _)))
      · intro a' W' hdd hsz hfr hG hJ
        have j3 : Blk W' (w.heap.size + 1) 25 (S.map u8v).toArray := hJ 3 (by decide)
        have j4 : Bi W' (w.heap.size + 1 + 1) C := hJ 4 (by decide)
        have j5 : a'.eval (.tmp 4) = .int .i64 0 := hJ 5 (by decide)
        have HJ := Lib.hid (And.intro j3 (And.intro j4 hG))
        obtain ⟨vs, hvs, e⟩ := act_of_some (by show dstsOk _ 39 = true; decide +kernel) hdd hsz hfr
        have h5 : vs 5 = .int .i64 0 := (hvs 5).symm.trans j5
        clear hJ hfr hdd hsz hG hvs j3 j4 j5
        have hrg : List.range 6 = [0, 1, 2, 3, 4, 5] := rfl
        simp only [layAll, List.map_cons, List.map_nil, List.size_toArray, List.length_cons, List.length_nil, Nat.reduceAdd, hrg, List.zip_cons_cons, List.zip_nil_left, List.foldl_cons, List.foldl_nil, Act.put, List.setIfInBounds_toArray, List.set_cons_zero, List.set_cons_succ] at e
        subst e
        clear hrg
        apply_assumption
        rw [h5]
        go_wp2_with fail
        have hs := HJ.out.2.2.size
        have hDl := (Array.getElem?_eq_some_iff.1 HW.out.2.1).1
        have hDz : W'.heap[D]? = some (.deferred (some [])) := (HJ.out.2.2.kept D hDl (by omega) (by omega)).trans HW.out.2.1
        have hgP := grownBy_putObj W' D (.deferred none)
        have hb1' : Blk (W'.putObj D (.deferred none)) (w.heap.size + 1) 25 (S.map u8v).toArray := (putObj_other2 (by omega)).trans HJ.out.1
        have hb2' : Bi (W'.putObj D (.deferred none)) (w.heap.size + 1 + 1) C := (putObj_other2 (by omega)).trans HJ.out.2.1
        have hk : ∀ k, w.heap.size + 1 + 1 + 1 ≤ k → k < w1.heap.size → (W'.putObj D (.deferred none)).heap[k]? = w1.heap[k]? := fun k h1 h2 => (putObj_other2 (by omega)).trans ((HJ.out.2.2.kept k (by omega) (by omega) (by omega)).trans ((HW.out.2.2.1 k (by omega)).trans (H2.out.2.1.block k h2)))
        have hsf : w1.heap.size ≤ (W'.putObj D (.deferred none)).heap.size := by simp; omega
        refine ⟨by simp, .inl ⟨_, _, rfl, run_takeDeferred hDz, ?_⟩⟩
        refine ⟨_, results_cells2 Tryz.results7 _ _ _ _ _ _ _ rfl (load_b32 HW.out.2.2.2.2.2.2.2.1 hb1') rfl (load_img hb2'), ?_, C, by rw [her, if_pos rfl, HW.out.2.2.2.2.2.2.1]; rfl, H1.out.1, fun h => absurd her h, fun _ => ?_⟩
        · have hw2 := H2.out.2.2.2.2.2
          have hw2s := hw2.size
          have h3 : Below w.heap.size w W := hw2.trans ((HN.out.1.mono (by omega)).trans ((H5.out.2.1.mono (by omega)).trans (HW.out.1.below.mono (by omega))))
          have h4 : Below w.heap.size W W' := ⟨HJ.out.2.2.os, HJ.out.2.2.tape, HJ.out.2.2.output, hs, fun k hk => HJ.out.2.2.kept k (by omega) (by omega) (by omega)⟩
          exact (h3.trans h4).grown hgP (by omega) (fun j e => by injection e with e; omega)
        · have ow := H1.out.2.2.1 her
          obtain ⟨lg, hs0, hl'⟩ := ow.sigs
          exact ⟨ow.nums, (ow.secs.keep fun k h1 h2 => hk k h1 h2).mono (by omega) hsf, lg, (hs0.keep hsf fun k cur e fr h1 h2 => hk k h1 (Array.getElem?_eq_some_iff.1 h2).1).lower (by omega), hl'⟩
  · have he' : ((er : Int) != 0) = true := by simp; omega
    have hl0 : (List.replicate 32 (0 : Int)).length = 32 := rfl
    obtain ⟨wd, hwd⟩ : ∃ x, w2.setRow (w.heap.size + 1) ((List.replicate 32 0).map u8v).toArray = x := ⟨_, rfl⟩
    have hst := store_b32 hl0 hl0 H2.out.2.2.2.1
    have hSR := setRow_blk (ds := ((List.replicate 32 (0 : Int)).map u8v).toArray) H2.out.2.2.2.1
    rw [hwd] at hst hSR
    have hId : Bi wd (w.heap.size + 1 + 1) IV.zero := H2.out.2.2.2.2.1.grown hSR.2 (fun e => by injection e with e; omega)
    have HD := Lib.hid (And.intro hst (And.intro hSR hId))
    clear hst hSR hId hwd
    go_wp2_with (first
      | ((with_reducible refine at_store_t 25 ?_); refine wpList_store_row rfl 25 _ _ rfl ⟨w.heap.size + 1, 0, none⟩ (.agg ((List.replicate 32 0).map u8v).toArray) wd rfl rfl HD.out.1 ?_)
      | ((with_reducible refine at_store_img ?_); refine wpList_store_img rfl _ _ rfl (w.heap.size + 1 + 1) IV.zero IV.zero rfl rfl HD.out.2.2 IV.zero_one ?_; intro wi hBi hgi)
      | fail)
    have hDi : Blk wi (w.heap.size + 1) 25 ((List.replicate 32 0).map u8v).toArray := HD.out.2.1.1.grown hgi (fun e => by injection e with e; omega)
    have hsz2 := H2.out.2.1.size
    have hszd := HD.out.2.1.2.size
    have hC0 := H1.out.2.1 (by rw [her]; exact he)
    refine ⟨_, results_cells2 Tryz.results7 _ _ _ _ _ _ _ rfl (load_b32 hl0 hDi) rfl (load_img hBi), ((H2.out.2.2.2.2.2).grown HD.out.2.1.2 (by omega) (fun j e => by injection e with e; omega)).grown hgi (by omega) (fun j e => by injection e with e; omega), IV.zero, by rw [her, if_neg he]; rfl, IV.zero_one, fun _ => rfl, fun h => absurd (her.symm.trans h) he⟩
end Go.Proofs.YtmpladnglfiejaaGreatDoor
