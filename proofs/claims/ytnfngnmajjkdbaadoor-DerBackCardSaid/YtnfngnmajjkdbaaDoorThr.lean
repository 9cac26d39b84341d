/- The contracts of der.each, der.through, der.Check. -/
import Derived.Test.YtnfngnmajjkdbaaDoorEach2
namespace Go.Proofs.YtnfngnmajjkdbaaDoor
open Go.RowKit Go.Shelf
attribute [local go_sem] Oper.semAt_some
set_option maxRecDepth 100000

/-- An element that is not gone through further. -/
def Der.leaf (t : UInt8) (b : List UInt8) : Bool := t.toNat / 32 % 2 == 0 || b.isEmpty
/-- The first error of elements, by f. -/
def Der.firstBad (f : UInt8 → List UInt8 → Nat) : List (Option (UInt8 × List UInt8 × List UInt8)) → Nat
  | [] => 0
  | none :: _ => 9
  | some (t, b, _) :: r => if f t b = 0 then Der.firstBad f r else f t b
/-- What through answers where k levels more may be gone through. -/
def Der.thr : Nat → UInt8 → List UInt8 → Nat
  | 0, t, b => if Der.leaf t b then 0 else 10
  | k + 1, t, b => if Der.leaf t b then 0 else if (Der.seq b).any (·.isNone) then 9 else Der.firstBad (Der.thr k) (Der.seq b)

def EachPost (A : Option Addr) (n c : Nat) (w : World) (e : Ending) (w' : World) : Prop :=
  e = .returned (.func (.func 37) #[] #[.pointer (some ⟨w.heap.size, 0, none⟩)]) ∧ Below w.heap.size w w' ∧ Blk w' w.heap.size 22 #[.slice A n c] ∧ w'.heap.size = w.heap.size + 1
theorem each_any (A : Option Addr) (n c : Nat) (w : World) : Calls Tryd.prog 26 #[.slice A n c] w (EachPost A n c w) := by
  have hmf : ∀ (fn : Fn) (first cap : Array Value) (w : World), (Instr.makeFunc fn first cap).run Tryd.prog w = .ok (.func fn first cap) w := fun _ _ _ _ => rfl
  go_enter Tryd.func26, Tryd.ntmps26
  go_wp2
  go_ret
  exact ⟨rfl, by (repeat (first | exact Below.refl _ _ | assumption | (refine Below.setCell ?_ (by first | omega | (simp; done) | (simp; omega)) _) | (refine Below.alloc ?_ (by first | omega | (simp; done) | (simp; omega)) _) | (refine below_drewN ?_ _) | (refine Below.drew ?_))), Blk.new _ _ _, by simp⟩

theorem and32 (t : UInt8) : bits .and .u8 (t.toNat : Int) 32 = ((t.toNat / 32 % 2 * 32 : Nat) : Int) := by
  rw [show (32 : Int) = ((32 : Nat) : Int) from rfl, u8_and_nat _ _ t.toNat_lt (by omega)]
  congr 1
  have h : ∀ x : Fin 256, x.val &&& 32 = x.val / 32 % 2 * 32 := by decide
  exact h ⟨t.toNat, t.toNat_lt⟩

def ThrPost (v : Nat) (w : World) (e : Ending) (w' : World) : Prop := e = .returned (.int .i64 (v : Int)) ∧ Below w.heap.size w w'

theorem thr_mk {v V : Nat} (h : v = V) {w w' : World} (hb : Below w.heap.size w w') : ThrPost V w (.returned (.int .i64 (v : Int))) w' := by subst h; exact ⟨rfl, hb⟩

theorem through_leaf (t : UInt8) (A1 A2 : Option Addr) (n1 c1 n2 c2 : Nat) (d : Int) (body : List UInt8) (B : Nat) (w : World) (h1 : Rd w B A1 n1 c1 body) (hl : Der.leaf t body = true) :
    Calls Tryd.prog 30 #[.agg #[.int .u8 (t.toNat : Int), .slice A1 n1 c1, .slice A2 n2 c2], .int .i64 d] w (ThrPost 0 w) := by
  have hn := h1.len
  clear h1
  by_cases ht : t.toNat / 32 % 2 = 0
  · have e1 : (bits .and .u8 (t.toNat : Int) 32 == 0) = true := by rw [and32, ht]; rfl
    clear hl hn
    go_enter Tryd.func30, Tryd.ntmps30
    go_wp2
    exact bodyPost_ret (v := .int .i64 0) (by simp [results, Tryd.results30, go_sem]) rfl ⟨rfl, by (repeat (first | exact Below.refl _ _ | assumption | (refine Below.setCell ?_ (by first | omega | (simp; done) | (simp; omega)) _) | (refine Below.alloc ?_ (by first | omega | (simp; done) | (simp; omega)) _) | (refine below_drewN ?_ _) | (refine Below.drew ?_)))⟩
  · have e1 : (bits .and .u8 (t.toNat : Int) 32 == 0) = false := by rw [and32]; simp; omega
    have h0 : body = [] := by simpa [Der.leaf, ht] using hl
    subst h0
    obtain rfl : n1 = 0 := by simpa using hn.symm
    clear hl hn
    go_enter Tryd.func30, Tryd.ntmps30
    go_wp2
    exact bodyPost_ret (v := .int .i64 0) (by simp [results, Tryd.results30, go_sem]) rfl ⟨rfl, by (repeat (first | exact Below.refl _ _ | assumption | (refine Below.setCell ?_ (by first | omega | (simp; done) | (simp; omega)) _) | (refine Below.alloc ?_ (by first | omega | (simp; done) | (simp; omega)) _) | (refine below_drewN ?_ _) | (refine Below.drew ?_)))⟩

theorem through_deep (t : UInt8) (A1 A2 : Option Addr) (n1 c1 n2 c2 : Nat) (body : List UInt8) (B : Nat) (w : World) (h1 : Rd w B A1 n1 c1 body) (hl : Der.leaf t body = false) :
    Calls Tryd.prog 30 #[.agg #[.int .u8 (t.toNat : Int), .slice A1 n1 c1, .slice A2 n2 c2], .int .i64 16] w (ThrPost 10 w) := by
  have hn := h1.len
  clear h1
  simp only [Der.leaf, Bool.or_eq_false_iff, beq_eq_false_iff_ne, List.isEmpty_eq_false_iff] at hl
  have e1 : (bits .and .u8 (t.toNat : Int) 32 == 0) = false := by rw [and32]; simp; omega
  have hpos : 0 < body.length := List.length_pos_iff.2 hl.2
  have e2 : ((n1 : Int) == 0) = false := by simp; omega
  clear hl hn hpos
  go_enter Tryd.func30, Tryd.ntmps30
  go_wp2
  exact bodyPost_ret (v := .int .i64 10) (by simp [results, Tryd.results30, go_sem]) rfl ⟨rfl, by (repeat (first | exact Below.refl _ _ | assumption | (refine Below.setCell ?_ (by first | omega | (simp; done) | (simp; omega)) _) | (refine Below.alloc ?_ (by first | omega | (simp; done) | (simp; omega)) _) | (refine below_drewN ?_ _) | (refine Below.drew ?_)))⟩

/-- What through's rounds keep: its own three variables, and all that was there. -/
def ThrI (vs : Array Value) (ev d : Int) (w : World) (W : World) : Prop :=
  Below w.heap.size w W ∧ Blk W w.heap.size 30 vs ∧ Blk W (w.heap.size + 1) 3 #[.int .i64 d] ∧ Blk W (w.heap.size + 2) 31 #[.int .i64 ev]
theorem ThrI.own {β : Type} (vs : Array Value) (ev d : Int) (w : World) (Bn N : Nat) (h1 : w.heap.size + 3 ≤ Bn) (h2 : w.heap.size ≤ N) : OwnX Bn N (fun (_ : β) W => ThrI vs ev d w W) :=
  (OwnX.below (by omega) h2 (Nat.le_refl _)).and ((OwnX.blk _ _ (by omega)).and ((OwnX.blk _ _ (by omega)).and (OwnX.blk _ _ (by omega))))
theorem ThrI.store {vs : Array Value} {ev ev' d : Int} {w W : World} (h : ThrI vs ev d w W) : ThrI vs ev' d w (W.setCell ⟨w.heap.size + 2, 0, none⟩ (.int .i64 ev')) :=
  ⟨h.1.setCell (by simp) _, h.2.1.far (by simp) _, h.2.2.1.far (by simp) _, by simpa using h.2.2.2.set_ 0 (.int .i64 ev')⟩
theorem ThrI.later {vs : Array Value} {ev d : Int} {w W W' : World} (h : ThrI vs ev d w W) (hb : Below W.heap.size W W') : ThrI vs ev d w W' :=
  ⟨h.1.trans (hb.mono h.1.size), h.2.1.below hb h.2.1.lt, h.2.2.1.below hb h.2.2.1.lt, h.2.2.2.below hb h.2.2.2.lt⟩
theorem ThrI.put {vs : Array Value} {ev d : Int} {w W : World} (h : ThrI vs ev d w W) {D : Nat} {o : Obj} (o' : Obj) (hD : W.heap[D]? = some o) (ho : o.isCells = false) (hge : w.heap.size ≤ D) : ThrI vs ev d w (W.putObj D o') := by
  have hg := grownBy_putObj' W D o'
  have hlt := (Array.getElem?_eq_some_iff.1 hD).1
  have key : ∀ {g : Nat} {t : TypeId} {cs : Array Value}, Blk W g t cs → Blk (W.putObj D o') g t cs := fun hb => hb.grown hg (fun e => by
    injection e with e; subst e; unfold Blk at hb; rw [hb] at hD; cases hD; cases ho)
  exact ⟨h.1.grown hg h.1.size (fun k e => by injection e with e; omega), key h.2.1, key h.2.2.1, key h.2.2.2⟩
theorem OwnX.at_ {β : Type} {Bn N D : Nat} (o : Obj) (hD : D < N) (hne : D ≠ Bn) : OwnX Bn N (fun (_ : β) W => W.heap[D]? = some o) := by
  intro s X Y row hs hg hr
  refine (hg.block D (Array.getElem?_eq_some_iff.1 hs).1 fun e => ?_).trans hs
  rcases hr D e.symm with e | ⟨h, _⟩
  · exact hne e
  · omega

theorem OwnX.size {β : Type} (Bn N c : Nat) : OwnX Bn N (fun (_ : β) W => c ≤ W.heap.size) := fun _ _ _ _ hs hg _ => Nat.le_trans hs hg.size
theorem keepsFrom_below {N : Nat} {W W' : World} (h : Below W.heap.size W W') : KeepsFrom N W W' := ⟨h.size, fun k _ _ hk _ => (h.block k (Array.getElem?_eq_some_iff.1 hk).1).trans hk⟩

theorem any_none_of_ok {n₀ : Nat} {w₀ : World} {ys : List Item} (h : ∀ x ∈ ys, Item.ok x = true) (hg : ∀ x ∈ ys, Item.good n₀ w₀ x) : (ys.map (·.dat)).any (·.isNone) = false := by
  rw [List.any_eq_false]
  intro d hd
  obtain ⟨x, hx, rfl⟩ := List.mem_map.1 hd
  rcases hg x hx with ⟨_, _, e⟩ | ⟨t, b, r, _, _, _, _, _, _, e, _⟩
  · rw [h x hx] at e; cases e
  · simp [e]

/-- The error that an item's element gives. -/
def Item.bad (f : UInt8 → List UInt8 → Nat) (x : Item) (v : Nat) : Prop := ∃ t b r, x.dat = some (t, b, r) ∧ f t b = v
theorem firstBad_all {f : UInt8 → List UInt8 → Nat} : ∀ {l : List Item}, (∀ x ∈ l, x.bad f 0) → Der.firstBad f (l.map (·.dat)) = 0
  | [], _ => rfl
  | x :: l, h => by
    obtain ⟨t, b, r, e, hz⟩ := h x (by simp)
    simp only [List.map_cons, e, Der.firstBad, hz, if_true]
    exact firstBad_all fun y hy => h y (by simp [hy])
theorem firstBad_hit {f : UInt8 → List UInt8 → Nat} {x : Item} {v : Nat} (hx : x.bad f v) (hv : v ≠ 0) (tl : List (Option (UInt8 × List UInt8 × List UInt8))) :
    ∀ {l : List Item}, (∀ x ∈ l, x.bad f 0) → Der.firstBad f ((l ++ [x]).map (·.dat) ++ tl) = v
  | [], _ => by
    obtain ⟨t, b, r, e, hz⟩ := hx
    simp only [List.nil_append, List.map_cons, List.map_nil, e, List.cons_append, Der.firstBad, hz, if_neg hv]
  | y :: l, h => by
    obtain ⟨t, b, r, e, hz⟩ := h y (by simp)
    have := firstBad_hit hx hv tl (l := l) fun z hz => h z (by simp [hz])
    simp only [List.cons_append, List.map_cons, e, Der.firstBad, hz, if_true]
    exact this

/-- What the second loop's frame bears: the element's box. -/
def BoxAt (w : World) (Bn : Nat) (x : Item) (Bx : Nat) (W : World) : Prop :=
  w.heap.size + 3 ≤ Bx ∧ Bx ≠ Bn ∧ ∃ cs, x.v = .agg cs ∧ Blk W Bx 30 cs
theorem BoxAt.own {β : Type} (w : World) (Bn N : Nat) (x : Item) (Bx : Nat) : OwnX Bn N (fun (_ : β) W => BoxAt w Bn x Bx W) := by
  rintro s X Y row ⟨h1, h2, cs, e, hb⟩ hg hr
  exact ⟨h1, h2, cs, e, OwnX.blk (β := Unit) 30 (fun _ => cs) h2 () X Y row hb hg hr⟩

set_option maxHeartbeats 2000000 in
theorem through_any (k : Nat) : ∀ (d : Nat), d + k = 16 → ∀ (t : UInt8) (A1 A2 : Option Addr) (n1 c1 n2 c2 : Nat) (body : List UInt8) (w : World), Rd w w.heap.size A1 n1 c1 body →
    Calls Tryd.prog 30 #[.agg #[.int .u8 (t.toNat : Int), .slice A1 n1 c1, .slice A2 n2 c2], .int .i64 (d : Int)] w (ThrPost (Der.thr k t body) w) := by
  induction k with
  | zero =>
    intro d hd t A1 A2 n1 c1 n2 c2 body w h1
    obtain rfl : d = 16 := by omega
    by_cases hl : Der.leaf t body = true
    · rw [Der.thr, if_pos hl]; exact through_leaf t A1 A2 n1 c1 n2 c2 _ body _ w h1 hl
    · rw [Der.thr, if_neg hl]; exact through_deep t A1 A2 n1 c1 n2 c2 body _ w h1 (by simpa using hl)
  | succ k ih =>
    intro d hd t A1 A2 n1 c1 n2 c2 body w h1
    by_cases hl : Der.leaf t body = true
    · rw [Der.thr, if_pos hl]; exact through_leaf t A1 A2 n1 c1 n2 c2 _ body _ w h1 hl
    rw [Der.thr, if_neg hl]
    obtain ⟨V, hV⟩ : ∃ V, (if (Der.seq body).any (·.isNone) then 9 else Der.firstBad (Der.thr k) (Der.seq body)) = V := ⟨_, rfl⟩
    rw [hV]
    have HV := Lib.hid hV
    clear hV
    simp only [Der.leaf, Bool.or_eq_true, beq_iff_eq, List.isEmpty_iff, not_or] at hl
    have hn := h1.len
    have e1 : (bits .and .u8 (t.toNat : Int) 32 == 0) = false := by rw [and32]; simp; omega
    have hpos : 0 < body.length := List.length_pos_iff.2 hl.2
    have e2 : ((n1 : Int) == 0) = false := by simp; omega
    have e3 : ((d : Int) == 16) = false := by simp; omega
    have HIH := Lib.hid ih
    clear hl hn hpos ih
    refine (callsIn_wide (n := 5)).1 ?_
    refine callsIn_of_wp_marks Tryd.func30 rfl trivial ?_ rfl
    simp only [Tryd.ntmps30, List.size_toArray, List.length_cons, List.length_nil, Nat.reduceAdd, Nat.reduceSub, Array.replicate_succ, Array.replicate_zero, List.push_toArray, List.append_toArray, List.nil_append, List.cons_append]
    have hB0 := ((Blk.new w 30 #[.int .u8 (t.toNat : Int), .slice A1 n1 c1, .slice A2 n2 c2]).alloc (.cells #[.int .i64 (d : Int)] 3)).alloc (.cells #[.int .i64 0] 31)
    have hB1 := (Blk.new (w.alloc (.cells #[.int .u8 (t.toNat : Int), .slice A1 n1 c1, .slice A2 n2 c2] 30)) 3 #[.int .i64 (d : Int)]).alloc (.cells #[.int .i64 0] 31)
    have hB2 := Blk.new ((w.alloc (.cells #[.int .u8 (t.toNat : Int), .slice A1 n1 c1, .slice A2 n2 c2] 30)).alloc (.cells #[.int .i64 (d : Int)] 3)) 31 #[.int .i64 0]
    simp only [World.size_alloc] at hB1 hB2
    gi_wp2_with fail
    refine ⟨trivial, (callsIn_wide.2 (each_any A1 n1 c1 _)).mono ?_⟩
    rintro e w1 ⟨rfl, hb1, hBn, hz1⟩
    simp only [World.size_alloc] at hb1 hBn hz1
    have hbw1 : Below w.heap.size w w1 := Below.trans (by (repeat (first | exact Below.refl _ _ | assumption | (refine Below.setCell ?_ (by first | omega | (simp; done) | (simp; omega)) _) | (refine Below.alloc ?_ (by first | omega | (simp; done) | (simp; omega)) _) | (refine below_drewN ?_ _) | (refine Below.drew ?_)))) (hb1.mono (by omega))
    have hB0' := hB0.below hb1 (by omega)
    have hB1' := hB1.below hb1 (by omega)
    have hB2' := hB2.below hb1 (by omega)
    clear hb1 hB0 hB1 hB2
    obtain ⟨vs, hvs⟩ : ∃ vs : Array Value, vs = #[.int .u8 (t.toNat : Int), .slice A1 n1 c1, .slice A2 n2 c2] := ⟨_, rfl⟩
    have hI0 : ThrI vs 0 d w w1 := ⟨hbw1, by rw [hvs]; exact hB0', hB1', hB2'⟩
    have hs1 : w.heap.size + 4 ≤ w1.heap.size := by omega
    have HN := Lib.hid (And.intro hvs hBn)
    clear hB1' hB2' hBn hz1 hB0' hvs
    gi_wp2_with fail
    refine range_each (by omega) (w.heap.size + 3) rfl rfl w.heap.size w A1 n1 c1 body HN.out.2 h1
      (fun pre W => (∀ x ∈ pre, Item.ok x = true ∧ Item.good w.heap.size w x) ∧ ThrI vs 0 d w W) (fun c pre W => (c = .ret ∧ ∃ x ∈ pre, Item.ok x = false ∧ Item.good w.heap.size w x ∧ x.dat ∈ Der.seq body) ∧ ThrI vs 9 d w W)
      ((OwnX.pure_ _ _ _).and (ThrI.own _ _ _ _ _ _ (by omega) (by omega))) (fun c => (OwnX.pure_ _ _ _).and (ThrI.own _ _ _ _ _ _ (by omega) (by omega)))
      (fun s X h => ⟨h.2.1, h.2.1.size⟩) ⟨(fun x hx => by cases hx), hI0⟩
      (fun x a' _ => ∃ u0 u1 u5 u7 u8 u9 u10 u11 u12 u13 u14 u15 u16 u17 u18 u19 u20 u21 u22 u23 u24 u25 u26 u27 u28 u29 u30 u31 u32 u33 u34 u35 u36 u37 u38 u39 : Value, a' = { tmps := #[u0, u1, .pointer (some ⟨w.heap.size, 0, none⟩), .pointer (some ⟨w.heap.size + 1, 0, none⟩), .pointer (some ⟨w.heap.size + 2, 0, none⟩), u5, .bool x.ok, u7, u8, u9, u10, u11, u12, u13, u14, u15, u16, u17, u18, u19, u20, u21, u22, u23, u24, u25, u26, u27, u28, u29, u30, u31, u32, u33, u34, u35, u36, u37, u38, u39], defers := [] }) (fun x a' => OwnX.pure_ _ _ _) ?assign ?body ?done ?stop
    case assign =>
      intro l pre x W K hi hg hK
      gi_wp2
      exact hK _ _ (KeepsFrom.refl _ _) rfl hi ⟨_, _, _, _, _, _, _, _, _, _, _, _, _, _, _, _, _, _, _, _, _, _, _, _, _, _, _, _, _, _, _, _, _, _, _, _, rfl⟩
    case body =>
      rintro l pre x a' W hlN ⟨r, hr⟩ ⟨hok, hi⟩ ⟨u0, u1, u5, u7, u8, u9, u10, u11, u12, u13, u14, u15, u16, u17, u18, u19, u20, u21, u22, u23, u24, u25, u26, u27, u28, u29, u30, u31, u32, u33, u34, u35, u36, u37, u38, u39, rfl⟩ hg htl
      cases hxo : x.ok with
      | true =>
        have HO := Lib.hid (And.intro hok (And.intro hxo (And.intro hg hi)))
        clear hok hxo hg hi htl hr
        gi_wp2
        refine ⟨KeepsFrom.refl _ _, rfl, fun y hy => ?_, HO.out.2.2.2⟩
        rcases List.mem_append.1 hy with hy | hy
        · exact HO.out.1 y hy
        · obtain rfl := List.mem_singleton.1 hy
          exact ⟨HO.out.2.1, HO.out.2.2.1⟩
      | false =>
        obtain ⟨hc2, hf2⟩ := hi.2.2.2.facts
        have HO := Lib.hid (And.intro htl (And.intro hxo (And.intro hg hi)))
        clear hok hxo hg hi htl hr
        gi_wp2
        refine ⟨(KeepsOthers.setCell _ _ _).from _, ⟨rfl, x, by simp, HO.out.2.1, HO.out.2.2.1, ?_⟩, HO.out.2.2.2.store⟩
        obtain ⟨tl, htl⟩ := HO.out.1
        rw [htl]
        simp
    case stop =>
      rintro D c pre W hD ⟨⟨rfl, x, hx, hxo, hg, hxs⟩, hi⟩ hK
      have hp := hi.put (.deferred none) hK rfl (by omega)
      obtain ⟨hc2, hf2⟩ := hp.2.2.2.facts
      have hany : (Der.seq body).any (·.isNone) = true := by
        rw [List.any_eq_true]
        refine ⟨_, hxs, ?_⟩
        rcases hg with ⟨e, _⟩ | ⟨_, _, _, _, _, _, _, _, _, _, _, e, _⟩
        · rw [e]; rfl
        · rw [hxo] at e; cases e
      have HP := Lib.hid (And.intro hp (And.intro hany hK))
      clear hp hany hK hi
      gi_wp2
      refine ⟨by simp, .inl ⟨_, _, rfl, run_takeDeferred HP.out.2.2, ?_⟩⟩
      refine ⟨.int .i64 9, by simp [results, Tryd.results30, go_sem, hc2], ?_⟩
      have hv := HV.out
      rw [if_pos HP.out.2.1] at hv
      exact thr_mk (v := 9) hv HP.out.1.1
    case done =>
      rintro D ys W hD hys ⟨hok, hi⟩ hK
      have hany : (Der.seq body).any (·.isNone) = false := by
        rw [← hys]
        exact any_none_of_ok (fun x hx => (hok x hx).1) (fun x hx => (hok x hx).2)
      obtain ⟨hc0, hf0⟩ := hi.2.1.facts
      have hDlt := (Array.getElem?_eq_some_iff.1 hK).1
      have HW := Lib.hid (And.intro hi (And.intro hK (And.intro hany HN.out.1)))
      have hc01 : W.cell? ⟨w.heap.size, 1, none⟩ = some (.slice A1 n1 c1) := by rw [hc0, HN.out.1]; rfl
      have hv := HV.out
      rw [if_neg (by rw [hany]; simp)] at hv
      have HV2 := Lib.hid (And.intro hv hys)
      clear hi hK hany hok hys hc0 hv
      gi_wp2_with fail
      refine ⟨trivial, (callsIn_wide.2 (each_any A1 n1 c1 _)).mono ?_⟩
      rintro e w3 ⟨rfl, hb3, hBn3, hz3⟩
      have hi3 := HW.out.1.later hb3
      have hK3 : w3.heap[D]? = some (.deferred (some [])) := (hb3.block D hDlt).trans HW.out.2.1
      have HN3 := Lib.hid (And.intro hBn3 hK3)
      have hs3 : w.heap.size + 4 ≤ W.heap.size := by omega
      have hsz3 : w.heap.size + 4 ≤ w3.heap.size := by omega
      have hDl3 : D < w3.heap.size := by omega
      have hDne : D ≠ W.heap.size := by omega
      have hz3' : W.heap.size + 1 ≤ w3.heap.size := by omega
      clear hBn3 hK3 hz3 hb3 hc01 hf0
      gi_wp2_with fail
      refine range_each (by omega) W.heap.size rfl rfl w.heap.size w A1 n1 c1 body HN3.out.1 h1
        (fun pre W' => (∀ x ∈ pre, x.bad (Der.thr k) 0) ∧ ThrI vs 0 d w W' ∧ W'.heap[D]? = some (.deferred (some [])) ∧ W.heap.size + 1 ≤ W'.heap.size)
        (fun c pre W' => (c = .ret ∧ ∃ v, v ≠ 0 ∧ Der.firstBad (Der.thr k) (Der.seq body) = v ∧ ThrI vs v d w W') ∧ W'.heap[D]? = some (.deferred (some [])))
        ((OwnX.pure_ _ _ _).and ((ThrI.own _ _ _ _ _ _ (by omega) (by omega)).and ((OwnX.at_ _ (by omega) hDne).and (OwnX.size _ _ _)))) ?hIx
        (fun s X h => ⟨h.2.1.1, h.2.1.1.size⟩) ⟨(fun x hx => by cases hx), hi3, HN3.out.2, hz3'⟩
        (fun x a' W' => ∃ Bx, (∃ u0 u1 u5 u6 u8 u9 u10 u11 u12 u13 u14 u15 u16 u17 u18 u19 u20 u21 u22 u23 u24 u25 u26 u27 u28 u29 u30 u31 u32 u33 u34 u35 u36 u37 u38 u39 : Value, a' = { tmps := #[u0, u1, .pointer (some ⟨w.heap.size, 0, none⟩), .pointer (some ⟨w.heap.size + 1, 0, none⟩), .pointer (some ⟨w.heap.size + 2, 0, none⟩), u5, u6, .pointer (some ⟨Bx, 0, none⟩), u8, u9, u10, u11, u12, u13, u14, u15, u16, u17, u18, u19, u20, u21, u22, u23, u24, u25, u26, u27, u28, u29, u30, u31, u32, u33, u34, u35, u36, u37, u38, u39], defers := [] }) ∧ BoxAt w W.heap.size x Bx W') ?hAx ?assign2 ?body2 ?done2 ?stop2
      case hIx =>
        rintro c s X Y row ⟨⟨hc, v, hv, hf, hI⟩, hat⟩ hg hr
        exact ⟨⟨hc, v, hv, hf, ThrI.own (β := Unit) vs v d w _ w3.heap.size (by omega) (by omega) () X Y row hI hg hr⟩, OwnX.at_ (β := Unit) _ (N := w3.heap.size) hDl3 hDne () X Y row hat hg hr⟩
      case hAx =>
        rintro x a' s X Y row ⟨Bx, hx, hb⟩ hg hr
        exact ⟨Bx, hx, BoxAt.own (β := Unit) w _ w3.heap.size x Bx () X Y row hb hg hr⟩
      case assign2 =>
        intro l pre x W' K hi hg hK'
        have hfin : ∀ cs, x.v = .agg cs → KeepsFrom w3.heap.size W' (W'.alloc (.cells cs 30)) ∧ (W'.alloc (.cells cs 30)).heap[W.heap.size]? = W'.heap[W.heap.size]? ∧
            ((∀ x ∈ pre, x.bad (Der.thr k) 0) ∧ ThrI vs 0 d w (W'.alloc (.cells cs 30)) ∧ (W'.alloc (.cells cs 30)).heap[D]? = some (.deferred (some [])) ∧ W.heap.size + 1 ≤ (W'.alloc (.cells cs 30)).heap.size) ∧
            BoxAt w W.heap.size x W'.heap.size (W'.alloc (.cells cs 30)) := by
          intro cs hcs
          obtain ⟨hz, hI, hD', hsz⟩ := hi
          exact ⟨(KeepsOthers.alloc _ _).from _, Below.heap_alloc _ _ _ (by omega), ⟨hz, hI.later ((Below.refl _ _).alloc (Nat.le_refl _) _), (Below.heap_alloc _ _ _ (Array.getElem?_eq_some_iff.1 hD').1).trans hD', by simp; omega⟩,
            by omega, by omega, cs, hcs, Blk.new _ _ _⟩
        rcases hg with ⟨_, hxv, _⟩ | ⟨t', b', r', A4, n4, c4, A5, n5, c5, _, hxv, _, _, _⟩
        · have HF := Lib.hid (hfin _ hxv)
          rw [hxv]
          clear hfin hxv hi
          gi_wp2
          exact hK' _ _ HF.out.1 HF.out.2.1 HF.out.2.2.1 ⟨W'.heap.size, ⟨_, _, _, _, _, _, _, _, _, _, _, _, _, _, _, _, _, _, _, _, _, _, _, _, _, _, _, _, _, _, _, _, _, _, _, _, rfl⟩, HF.out.2.2.2⟩
        · have HF := Lib.hid (hfin _ hxv)
          rw [hxv]
          clear hfin hxv hi
          gi_wp2
          exact hK' _ _ HF.out.1 HF.out.2.1 HF.out.2.2.1 ⟨W'.heap.size, ⟨_, _, _, _, _, _, _, _, _, _, _, _, _, _, _, _, _, _, _, _, _, _, _, _, _, _, _, _, _, _, _, _, _, _, _, _, rfl⟩, HF.out.2.2.2⟩
      case body2 =>
        rintro l pre x a' W' hlN ⟨r, hr⟩ ⟨hz, hi, hK, hsz⟩ ⟨Bx, ⟨u0, u1, u5, u6, u8, u9, u10, u11, u12, u13, u14, u15, u16, u17, u18, u19, u20, u21, u22, u23, u24, u25, u26, u27, u28, u29, u30, u31, u32, u33, u34, u35, u36, u37, u38, u39, rfl⟩, hBx1, hBx2, cs, hcs, hBlk⟩ hg ⟨tl, htl⟩
        have hnn : x.dat ≠ none := by
          intro e
          have h1 := HW.out.2.2.1
          rw [List.any_eq_false] at h1
          exact h1 none (by rw [htl, ← e]; simp) rfl
        rcases hg with ⟨e, _⟩ | ⟨t', b', r', A4, n4, c4, A5, n5, c5, hdat, hxv, _, hr4, hr5⟩
        · exact absurd e hnn
        obtain rfl : cs = #[.int .u8 (t'.toNat : Int), .slice A4 n4 c4, .slice A5 n5 c5] := by rw [hxv] at hcs; injection hcs with hcs; exact hcs.symm
        obtain ⟨hcx, hfx⟩ := hBlk.facts
        obtain ⟨hcd, hfd⟩ := hi.2.2.1.facts
        have hih := HIH.out (d + 1) (by omega) t' A4 A5 n4 c4 n5 c5 b' W' (hr4.up hi.1)
        rw [show ((d + 1 : Nat) : Int) = (d : Int) + 1 from by omega] at hih
        have HC := Lib.hid hih
        have HX := Lib.hid (And.intro hz (And.intro hi (And.intro hK (And.intro htl hdat))))
        have hdb : (d : Int) < 16 := by omega
        have hDW := (Array.getElem?_eq_some_iff.1 hK).1
        clear hih hz hi hK htl hdat hxv hcs hnn hr hr4 hr5
        gi_wp2_with fail
        refine ⟨trivial, (CallsIn.inRound l (callsIn_wide.2 HC.out)).mono ?_⟩
        rintro e w5 ⟨rfl, hb5⟩
        have hi5 := HX.out.2.1.later hb5
        obtain ⟨hce, hfe⟩ := hi5.2.2.2.facts
        have hb5s := hb5.size
        have HB := Lib.hid (And.intro hb5 hi5)
        clear hb5 hi5 hcd hfd hcx hfx
        obtain ⟨q, hq⟩ : ∃ q, Der.thr k t' b' = q := ⟨_, rfl⟩
        rw [hq]
        have HQ := Lib.hid hq
        clear hq
        by_cases hq0 : q = 0
        · have hne : ((q : Int) != 0) = false := by simp; omega
          gi_wp2
          refine ⟨keepsFrom_below HB.out.1, HB.out.1.block _ (by omega), fun y hy => ?_, HB.out.2, (HB.out.1.block _ hDW).trans HX.out.2.2.1, by omega⟩
          rcases List.mem_append.1 hy with hy | hy
          · exact HX.out.1 y hy
          · obtain rfl := List.mem_singleton.1 hy
            exact ⟨t', b', r', HX.out.2.2.2.2, by rw [HQ.out, hq0]⟩
        · have hne : ((q : Int) != 0) = true := by simp; omega
          gi_wp2
          refine ⟨(keepsFrom_below HB.out.1).trans ((KeepsOthers.setCell _ _ _).from _), ⟨rfl, q, hq0, ?_, HB.out.2.store⟩, (Below.heap_setCell _ _ _ _ (by simp; omega)).trans ((HB.out.1.block _ hDW).trans HX.out.2.2.1)⟩
          rw [HX.out.2.2.2.1]
          exact firstBad_hit ⟨t', b', r', HX.out.2.2.2.2, HQ.out⟩ hq0 tl HX.out.1
      case done2 =>
        rintro D2 zs W' hD2 hzs ⟨hz, hi, hK, _⟩ hK2
        obtain ⟨hc2, hf2⟩ := hi.2.2.2.facts
        have hi2 : ThrI vs 0 d w (W'.setCell ⟨w.heap.size + 2, 0, none⟩ (.int .i64 0)) := hi.store
        have h1K : (W'.setCell ⟨w.heap.size + 2, 0, none⟩ (.int .i64 0)).heap[D]? = some (.deferred (some [])) := (Below.heap_setCell _ _ _ _ (by simp; omega)).trans hK
        have h2K : (W'.setCell ⟨w.heap.size + 2, 0, none⟩ (.int .i64 0)).heap[D2]? = some (.deferred (some [])) := (Below.heap_setCell _ _ _ _ (by simp; omega)).trans hK2
        have hp := hi2.put (.deferred none) h2K rfl (by omega)
        have h3K := (putObj_other (o := .deferred none) (show D ≠ D2 by omega)).trans h1K
        have hq := hp.put (.deferred none) h3K rfl (by omega)
        obtain ⟨hc4, hf4⟩ := hq.2.2.2.facts
        have HP := Lib.hid (And.intro hq (And.intro h2K (And.intro h3K (And.intro hz hzs))))
        clear hi hi2 hK hK2 h1K h2K hp h3K hq hz hzs
        gi_wp2
        refine ⟨by simp, .inl ⟨_, _, rfl, run_takeDeferred HP.out.2.1, by simp, .inl ⟨_, _, rfl, run_takeDeferred HP.out.2.2.1, ?_⟩⟩⟩
        refine ⟨.int .i64 0, by simp [results, Tryd.results30, go_sem, hc4], ?_⟩
        have hv := HV2.out.1
        rw [← HP.out.2.2.2.2, firstBad_all HP.out.2.2.2.1] at hv
        exact thr_mk (v := 0) hv HP.out.1.1
      case stop2 =>
        rintro D2 c pre W' hD2 ⟨⟨rfl, v, hv0, hvf, hi⟩, hK⟩ hK2
        have hp := hi.put (.deferred none) hK2 rfl (by omega)
        have h3K := (putObj_other (o := .deferred none) (show D ≠ D2 by omega)).trans hK
        have hq := hp.put (.deferred none) h3K rfl (by omega)
        obtain ⟨hc4, hf4⟩ := hq.2.2.2.facts
        have HP := Lib.hid (And.intro hq (And.intro hK2 (And.intro h3K hvf)))
        clear hi hK hK2 hp h3K hq hvf hv0
        gi_wp2
        refine ⟨by simp, .inl ⟨_, _, rfl, run_takeDeferred HP.out.2.1, by simp, .inl ⟨_, _, rfl, run_takeDeferred HP.out.2.2.1, ?_⟩⟩⟩
        refine ⟨.int .i64 (v : Int), by simp [results, Tryd.results30, go_sem, hc4], ?_⟩
        have hv := HV2.out.1
        rw [HP.out.2.2.2] at hv
        exact thr_mk hv HP.out.1.1
end Go.Proofs.YtnfngnmajjkdbaaDoor
