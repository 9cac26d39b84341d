/- Joined of: Chk Cert11. -/
import Derived.Test.YtmnekhliblkibaaGB
import Derived.Test.YtmnekhliblkibaaGJ
import Derived.Defers
import Derived.Recover
import Derived.Deep.MidRow
section
/- The contract of der.Check. -/
namespace Go.Proofs.Ytmnekhliblkibaa
open Go.RowKit
set_option maxRecDepth 100000

def Der.check (xs : List UInt8) : Nat := match Der.elem xs with
  | none => 9
  | some (t, body, _, rest) => if rest = [] then Der.thr 15 t body else 9

set_option maxHeartbeats 400000 in
theorem check_any (A : Option Addr) (n c : Nat) (xs : List UInt8) (w : World) (h : Rd w w.heap.size A n c xs) :
    Calls Try.prog 38 #[.slice A n c] w (ThrPost (Der.check xs) w) := by
  obtain ⟨V, hV⟩ : ∃ V, Der.check xs = V := ⟨_, rfl⟩
  rw [hV]
  have HV := Lib.hid hV
  clear hV
  go_enter Try.func38, Try.ntmps38
  go_wp2_with fail
  refine (element_any A n c xs _ _ h (Nat.le_refl _)).mono ?_
  rintro e w1 ⟨hb1, ⟨hno, rfl⟩ | ⟨t, body, raw, rest, A1, n1, c1, A2, n2, c2, A3, n3, c3, hel, rfl, h1, h2, h3⟩⟩
  · have hsb := hb1.size
    have hv := HV.out
    unfold Der.check at hv
    rw [hno] at hv
    have HN := Lib.hid hv
    clear hno hv
    go_wp2
    go_ret
    exact thr_mk (v := 9) HN.out (by (repeat (first | exact Below.refl _ _ | assumption | (refine Below.setCell ?_ (by first | omega | (simp; done) | (simp; omega)) _) | (refine Below.alloc ?_ (by first | omega | (simp; done) | (simp; omega)) _) | (refine below_drewN ?_ _) | (refine Below.drew ?_))))
  · have hsb := hb1.size
    have hv := HV.out
    unfold Der.check at hv
    rw [hel] at hv
    simp only at hv
    have hn3 := h3.len
    by_cases hr : rest = []
    · rw [if_pos hr] at hv
      subst hr
      obtain rfl : n3 = 0 := by simpa using hn3.symm
      have HN := Lib.hid (And.intro hv (h1.up hb1))
      have hbk := Blk.new w1 50 #[.int .u8 (t.toNat : Int), .slice A1 n1 c1, .slice A2 n2 c2]
      obtain ⟨hc, hf⟩ := hbk.facts
      clear hv hn3 h1 h2 h3 hel hbk
      go_wp2_with fail
      refine (through_any 15 1 rfl t A1 A2 n1 c1 n2 c2 body _ (HN.out.2.up (by (repeat (first | exact Below.refl _ _ | assumption | (refine Below.setCell ?_ (by first | omega | (simp; done) | (simp; omega)) _) | (refine Below.alloc ?_ (by first | omega | (simp; done) | (simp; omega)) _) | (refine below_drewN ?_ _) | (refine Below.drew ?_)))))).mono ?_
      rintro e w2 ⟨rfl, hb2⟩
      have hs := hb1.size
      have hb3 : Below w.heap.size w w2 := Below.trans (by (repeat (first | exact Below.refl _ _ | assumption | (refine Below.setCell ?_ (by first | omega | (simp; done) | (simp; omega)) _) | (refine Below.alloc ?_ (by first | omega | (simp; done) | (simp; omega)) _) | (refine below_drewN ?_ _) | (refine Below.drew ?_)))) (hb2.mono (by simp; omega))
      go_wp2
      go_ret
      exact thr_mk HN.out.1 hb3
    · rw [if_neg hr] at hv
      have hpos : 0 < rest.length := List.length_pos_iff.2 hr
      have h3p : (0 : Int) < n3 := by omega
      have HN := Lib.hid hv
      clear hv hn3 h1 h2 h3 hel hpos
      go_wp2
      go_ret
      exact thr_mk (v := 9) HN.out (by (repeat (first | exact Below.refl _ _ | assumption | (refine Below.setCell ?_ (by first | omega | (simp; done) | (simp; omega)) _) | (refine Below.alloc ?_ (by first | omega | (simp; done) | (simp; omega)) _) | (refine below_drewN ?_ _) | (refine Below.drew ?_))))
end Go.Proofs.Ytmnekhliblkibaa
end

section
/- cert.Parse's deferred closure. -/
namespace Go.Proofs.Ytmnekhliblkibaa
open Go.RowKit
set_option maxRecDepth 100000
set_option linter.unusedVariables false
set_option linter.unusedSimpArgs false

def CV.zero : CV := ⟨.slice none 0 0, .slice none 0 0, .slice none 0 0, .slice none 0 0, .slice none 0 0, ⟨0, 0, 0, 0, 0, 0⟩, ⟨0, 0, 0, 0, 0, 0⟩, .slice none 0 0, 0, .slice none 0 0, ⟨false, 0, 0, false⟩⟩
/-- What the fields hold, as one value. -/
def CV.val (c : CV) : Value := .agg c.cells

/-- Storing a whole certificate into its block. -/
theorem put_cert {w : World} {gc : Nat} {C : CV} (h : Bc w gc C) (D : CV) (hD : ∀ v ∈ D.cells.toList, v.oneCell' = true) :
    (storeCells ⟨gc, 0, none⟩ D.cells.toList 0).run Try.prog w = .ok () (w.setRow gc D.cells) := by
  have := run_storeCells_at (P := Try.prog) gc 0 32 D.cells.toList 0 C.cells w h (by simp [CV.cells]) hD
  simpa [CV.cells] using this
theorem cert_info : (Try.prog.info? 32).map (·.size) = some 24 := rfl
theorem run_put_cert {w : World} {gc : Nat} {C : CV} (h : Bc w gc C) (D : CV) (hD : ∀ v ∈ D.cells.toList, v.oneCell' = true) :
    (storeVar 32 ⟨gc, 0, none⟩ (.agg D.cells)).run Try.prog w = .ok () (w.setRow gc D.cells) := by
  have h1 := put_cert h D hD
  cases hq : Try.prog.info? 32 with
  | none => have := cert_info; rw [hq] at this; cases this
  | some i =>
    have hs : i.size = 24 := by have := cert_info; rw [hq] at this; injection this
    simpa [storeVar, sizeOf, typeInfo, hq, Value.cells, hs, CV.cells] using h1
theorem wpList_store_cert {ops : Array Oper} {rest : List Oper} {op : Oper} {a : Act} {w : World} {Q : Exit → Act → World → Prop} (hgd : op.guard = none) (x y : Operand) (ho : op.op = .store 32 x y)
    (gc : Nat) (C D : CV) (hx : a.eval x = .pointer (some ⟨gc, 0, none⟩)) (hy : a.eval y = .agg D.cells) (hB : Bc w gc C) (hD : ∀ v ∈ D.cells.toList, v.oneCell' = true)
    (h : ∀ w', Bc w' gc D → w.grownBy w' (some gc) → wpList Try.prog ops Q rest (a.put op.dst undef) w') : wpList Try.prog ops Q (op :: rest) a w := by
  refine wpList_plain hgd fun K hK => ?_
  unfold Oper.wp execOp
  simp only [ho, hx, hy, Instr.storeAt, Instr.sureAddr, Sem.run_bind, Sem.run_pure, Result.andThen_ok, run_put_cert hB D hD]
  refine hK _ _ (h _ (setRow_heap w gc C.cells D.cells _ _ hB) ?_)
  refine ⟨rfl, rfl, rfl, by simp [World.setRow], fun k hk hne => ?_⟩
  unfold World.setRow
  simp only [Array.getElem?_modify]
  rw [if_neg (fun e => hne (by rw [e]))]

/-- Fits where the operation at hand stores a whole certificate. -/
theorem at_store_cert {P : Program} {ops : Array Oper} {rest : List Oper} {d : Option Tmp} {ty : TypeId} {pos : String} {af : Array Edge} {g : Option (Nat × Bool)} {x y : Operand} {a : Act} {w : World} {Q : Exit → Act → World → Prop}
    (h : wpList P ops Q ({ dst := d, op := .store 32 x y, type := ty, pos := pos, after := af, guard := g } :: rest) a w) : wpList P ops Q ({ dst := d, op := .store 32 x y, type := ty, pos := pos, after := af, guard := g } :: rest) a w := h
/-- Fits where the operation at hand loads a whole certificate. -/
theorem at_load_cert {P : Program} {ops : Array Oper} {rest : List Oper} {d : Option Tmp} {ty : TypeId} {pos : String} {af : Array Edge} {g : Option (Nat × Bool)} {x : Operand} {a : Act} {w : World} {Q : Exit → Act → World → Prop}
    (h : wpList P ops Q ({ dst := d, op := .load 32 x, type := ty, pos := pos, after := af, guard := g } :: rest) a w) : wpList P ops Q ({ dst := d, op := .load 32 x, type := ty, pos := pos, after := af, guard := g } :: rest) a w := h
theorem CV.zero_cells : ∀ v ∈ CV.zero.cells.toList, v.oneCell' = true := by
  intro v hv
  simp only [CV.zero, CV.cells, List.mem_cons, List.not_mem_nil, or_false] at hv
  rcases hv with rfl | rfl | rfl | rfl | rfl | rfl | rfl | rfl | rfl | rfl | rfl | rfl | rfl | rfl | rfl | rfl | rfl | rfl | rfl | rfl | rfl | rfl | rfl | rfl <;> rfl

set_option maxHeartbeats 4000000 in
theorem catch_any (gc ge : Nat) (C : CV) (x : Int) (w : World) (hB : Bc w gc C) (hE : Blk w ge 33 #[.int .i64 x]) (hne : gc ≠ ge) :
    CallsD Try.prog 39 #[.pointer (some ⟨gc, 0, none⟩), .pointer (some ⟨ge, 0, none⟩)] (.panicking wrongs) w fun e u' w' =>
      e = .returned (.tuple #[]) ∧ u' = .panicking [{ v := .iface 80 (.agg #[]), recovered := true }] ∧ Bc w' gc CV.zero ∧ Blk w' ge 33 #[.int .i64 9] ∧ ∀ B, B ≤ gc → B ≤ ge → Below B w w' := by
  refine callsD_of_wpS Try.func39 rfl fun c₀ cs hu => ?_
  have hgl := hB.lt
  have hgl2 := hE.lt
  apply wpS_seq
  apply wpS_region
  have hr : Array.replicate 15 undef = #[undef, undef, undef, undef, undef, undef, undef, undef, undef, undef, undef, undef, undef, undef, undef] := rfl
  have hta : ∀ W : World, (Instr.typeAssert (.iface 80 (.agg #[])) 20 80 true).run Try.prog W = .ok (.tuple #[.agg #[], .bool true]) W := fun W => rfl
  simp [wpOpsS, go_sem, recoverD, hu, Try.ntmps39, Exit.thenS, wrongs, hr]
  refine wpS_of_wp ?_
  go_wp2_with (first
    | ((with_reducible refine at_store_cert ?_); refine wpList_store_cert rfl _ _ rfl gc C CV.zero rfl rfl (hB.alloc _) CV.zero_cells ?_; intro w1 hB1 hg1; have hE1 := (hE.alloc (.cells #[] 80)).grown hg1 (fun e => by injection e with e; omega); have he0 := hE1.cell 0; have he1 := hE1.frozen 0; simp only [List.getElem?_toArray, List.getElem?_cons_zero] at he0)
    | go_in)
  have hE2 := hE1.set_ 0 (.int .i64 9)
  have hB2 := Blk.far hB1 (p := ⟨ge, 0, none⟩) hne (.int .i64 9)
  simp [bodyPostS, results, Try.results39]
  refine ⟨hB2, hE2, fun B h1 h2 => ?_⟩
  have hs1 := hg1.size
  simp at hs1
  exact (((Below.refl B w).alloc (by omega) (.cells #[] 80)).grown hg1 (by simp; omega) (fun j hj => by cases hj; exact h1)).setCell (by exact h2) _

theorem catch_idle (gc ge : Nat) (w : World) :
    CallsD Try.prog 39 #[.pointer (some ⟨gc, 0, none⟩), .pointer (some ⟨ge, 0, none⟩)] .returning w fun e u' w' => e = .returned (.tuple #[]) ∧ u' = .returning ∧ w' = w := by
  refine callsD_of_wpS Try.func39 rfl fun c₀ cs hu => ?_
  apply wpS_seq
  apply wpS_region
  have hr : Array.replicate 15 undef = #[undef, undef, undef, undef, undef, undef, undef, undef, undef, undef, undef, undef, undef, undef, undef] := rfl
  simp [wpOpsS, go_sem, recoverD, hu, Try.ntmps39, Exit.thenS, hr]
  refine wpS_of_wp ?_
  go_wp2
  cases c₀
  simp_all [bodyPostS, results, Try.results39]

/-- What a certificate's bytes say. -/
def Cert.read (b : List UInt8) : Option (Sg × List UInt8) := (Cert.only b).bind fun x => (Cert.parts 48 3 3 x).bind fun l =>
  (Cert.signed ⟨false, -1, -1, true⟩ (l.getD 0 El.none_)).bind fun s => (Cert.method 11 (l.getD 1 El.none_)).bind fun _ => (Cert.whole (l.getD 2 El.none_)).bind fun g => some (s, g)
inductive Cert.Ans where
  | no (e : Nat)
  | yes (s : Sg) (g : List UInt8)
def Cert.parse (b : List UInt8) : Cert.Ans :=
  if 8192 < b.length then .no 10 else if Der.check b ≠ 0 then .no (Der.check b) else
    match Cert.read b with
    | none => .no 9
    | some p => .yes p.1 p.2
def Sg.cv (s : Sg) (vr vt vi vs ve vn vg : Value) : CV := ⟨vr, vt, vi, vs, ve, s.from_, s.to, vn, s.e, vg, s.fl⟩
/-- What Parse hands back. -/
def ParseC (b : List UInt8) (w : World) (e : Ending) (w' : World) : Prop := Below w.heap.size w w' ∧
  ((∃ n, Cert.parse b = .no n ∧ n ≠ 0 ∧ e = .returned (.tuple #[CV.zero.val, .int .i64 (n : Int)])) ∨
    ∃ s g vr vt vi vs ve vn vg, Cert.parse b = .yes s g ∧ e = .returned (.tuple #[(s.cv vr vt vi vs ve vn vg).val, .int .i64 0]) ∧
      (∀ p ∈ [(vr, b), (vt, s.tbs), (vi, s.iss), (vs, s.sub), (ve, s.ser), (vn, s.n), (vg, g)], OwnB w' w.heap.size w'.heap.size p.1 p.2) ∧ Apart' [(vr, b), (vt, s.tbs), (vi, s.iss), (vs, s.sub), (ve, s.ser), (vn, s.n), (vg, g)])

theorem load_cert {w : World} {gc : Nat} {C : CV} (h : Bc w gc C) : (loadVar 32 ⟨gc, 0, none⟩).run Try.prog w = .ok C.val w := by
  have hk := h.cell
  have h0 := run_loadVar_mid (P := Try.prog) w gc 0 32 C.cells.toList _ (fun j v hv => by rw [Nat.zero_add, hk]; simpa using hv) Try.underlying32 rfl rfl
  exact h0
theorem results_cells2 {fn : Func} {t u : Tmp} {ty ty' : TypeId} (h : fn.results = #[.cell t ty, .cell u ty']) (tmps : Array Value) (P : Program) (w : World) (ad ad' : Addr) (v v' : Value)
    (ha : tmps.getD t undef = .pointer (some ad)) (hl : (loadVar ty ad).run P w = .ok v w) (ha' : tmps.getD u undef = .pointer (some ad')) (hl' : (loadVar ty' ad').run P w = .ok v' w) :
    (results fn tmps).run P w = .ok (.tuple #[v, v']) w := by
  simp only [Array.getD_eq_getD_getElem?] at ha ha'
  simp [results, h, ha, hl, ha', hl', asAddr]
theorem load_errno {w : World} {ge : Nat} {x : Int} (hE : Blk w ge 33 #[.int .i64 x]) : (loadVar 33 ⟨ge, 0, none⟩).run Try.prog w = .ok (.int .i64 x) w := by
  have he := hE.cell 0
  simp only [List.getElem?_toArray, List.getElem?_cons_zero] at he
  simp [go_sem, he]
theorem parse_results {w : World} {gc ge : Nat} {C : CV} {x : Int} (tmps : Array Value) (h2 : tmps.getD 2 undef = .pointer (some ⟨gc, 0, none⟩)) (h3 : tmps.getD 3 undef = .pointer (some ⟨ge, 0, none⟩)) (hB : Bc w gc C) (hE : Blk w ge 33 #[.int .i64 x]) :
    (results Try.f16 tmps).run Try.prog w = .ok (.tuple #[C.val, .int .i64 x]) w :=
  results_cells2 Try.results16 tmps _ w _ _ _ _ h2 (load_cert hB) h3 (load_errno hE)

theorem apart_fwd {W : World} {l l' : List (Value × List UInt8)} {lo mid hi : Nat} (h : ∀ p ∈ l, OwnB W lo mid p.1 p.2) (h' : ∀ p ∈ l', OwnB W mid hi p.1 p.2) (ha : Apart' l) (ha' : Apart' l') : Apart' (l ++ l') := by
  refine List.pairwise_append.2 ⟨ha, ha', fun p hp q hq g e1 e2 => ?_⟩
  have := (h p hp).2 g e1
  have := ((h' q hq).1.lt g e2).1
  omega
def PS (w W : World) (C : CV) : Prop := Below w.heap.size w W ∧ Bc W w.heap.size C ∧ Blk W (w.heap.size + 1) 33 #[.int .i64 0]
theorem PS.grown {w W W' : World} {C C' : CV} (h : PS w W C) (hg : W.grownBy W' (some w.heap.size)) (hC : Bc W' w.heap.size C') : PS w W' C' :=
  ⟨h.1.grown hg h.1.size (fun j hj => by cases hj; exact Nat.le_refl _), hC, h.2.2.grown hg (fun e => by injection e with e; omega)⟩
theorem PS.below {w W W' : World} {C : CV} (h : PS w W C) (hb : Below W.heap.size W W') : PS w W' C := h.grown (grows_ hb _) (h.2.1.below hb h.2.1.lt)
theorem OwnB.grownC {w W W' : World} {lo hi : Nat} {v : Value} {xs : List UInt8} (h : OwnB W lo hi v xs) (hg : W.grownBy W' (some w.heap.size)) (hlo : w.heap.size < lo) (hhi : hi ≤ W.heap.size) : OwnB W' lo hi v xs :=
  h.keep fun k h1 h2 => hg.block k (by omega) (fun e => by injection e with e; omega)
theorem PS.rd {w W : World} {C : CV} {A : Option Addr} {n c : Nat} {b : List UInt8} (h : PS w W C) (hr : Rd w w.heap.size A n c b) : Rd W W.heap.size A n c b := (hr.below h.1).more h.1.size
def catcher (w : World) : List Deferred := [{ target := .fn (.func 39) #[.pointer (some ⟨w.heap.size, 0, none⟩), .pointer (some ⟨w.heap.size + 1, 0, none⟩)], args := #[] }]
theorem parse_panics {w W : World} {C : CV} {R : Ending → World → Prop} (tmps : Array Value) (h2 : tmps.getD 2 undef = .pointer (some ⟨w.heap.size, 0, none⟩)) (h3 : tmps.getD 3 undef = .pointer (some ⟨w.heap.size + 1, 0, none⟩)) (h : PS w W C)
    (hR : ∀ W', Below w.heap.size w W' → R (.returned (.tuple #[CV.zero.val, .int .i64 9])) W') :
    bodyPostD Try.prog Try.f16 R (.panic wrongs) { tmps := tmps, defers := catcher w } W := by
  unfold catcher
  refine leaves_cons (f := 39) (args := #[.pointer (some ⟨w.heap.size, 0, none⟩), .pointer (some ⟨w.heap.size + 1, 0, none⟩)]) (by simp) (by simp [go_sem]) ?_
  refine (catch_any w.heap.size (w.heap.size + 1) C 0 W h.2.1 h.2.2 (by omega)).mono ?_
  rintro e u' w'' ⟨rfl, rfl, hB, hE, hb⟩
  simp only [settle, List.dropWhile]
  exact ⟨_, parse_results _ h2 h3 hB hE, hR _ (Below.trans h.1 (hb _ (Nat.le_refl _) (by omega)))⟩
theorem parse_returns {w W : World} {C : CV} {R : Ending → World → Prop} (tmps : Array Value) (h2 : tmps.getD 2 undef = .pointer (some ⟨w.heap.size, 0, none⟩)) (h3 : tmps.getD 3 undef = .pointer (some ⟨w.heap.size + 1, 0, none⟩)) (h : PS w W C)
    (hR : R (.returned (.tuple #[C.val, .int .i64 0])) W) :
    bodyPostD Try.prog Try.f16 R .ret { tmps := tmps, defers := catcher w } W := by
  unfold catcher
  refine leaves_cons (f := 39) (args := #[.pointer (some ⟨w.heap.size, 0, none⟩), .pointer (some ⟨w.heap.size + 1, 0, none⟩)]) (by simp) (by simp [go_sem]) ?_
  refine (catch_idle w.heap.size (w.heap.size + 1) W).mono ?_
  rintro e u' w'' ⟨rfl, rfl, rfl⟩
  exact ⟨_, parse_results _ h2 h3 h.2.1 h.2.2, hR⟩

theorem wpList_load_cert {ops : Array Oper} {rest : List Oper} {op : Oper} {a : Act} {w : World} {Q : Exit → Act → World → Prop} (hgd : op.guard = none) (x : Operand) (ho : op.op = .load 32 x)
    (gc : Nat) (C : CV) (hx : a.eval x = .pointer (some ⟨gc, 0, none⟩)) (hB : Bc w gc C) (h : wpList Try.prog ops Q rest (a.put op.dst C.val) w) : wpList Try.prog ops Q (op :: rest) a w := by
  refine wpList_plain hgd fun K hK => ?_
  unfold Oper.wp execOp
  simp only [ho, hx, Instr.loadAt, Instr.sureAddr, Sem.run_bind, Sem.run_pure, Result.andThen_ok, load_cert hB]
  exact hK _ _ h
theorem ownB_one {w : World} {lo hi : Nat} {v : Value} {xs : List UInt8} (h : OwnB w lo hi v xs) : v.oneCell' = true := by
  obtain ⟨A, n, c, rfl, _⟩ := h.rd
  rfl
theorem CV.one {C : CV} (h0 : C.raw.oneCell' = true) (h1 : C.tbs.oneCell' = true) (h2 : C.iss.oneCell' = true) (h3 : C.sub.oneCell' = true) (h4 : C.ser.oneCell' = true) (h5 : C.n.oneCell' = true) (h6 : C.sig.oneCell' = true) : ∀ v ∈ C.cells.toList, v.oneCell' = true := by
  intro v hv
  simp only [CV.cells, List.mem_cons, List.not_mem_nil, or_false] at hv
  rcases hv with rfl | rfl | rfl | rfl | rfl | rfl | rfl | rfl | rfl | rfl | rfl | rfl | rfl | rfl | rfl | rfl | rfl | rfl | rfl | rfl | rfl | rfl | rfl | rfl <;> first | rfl | assumption

theorem told8_tbs {s s' : Sg} {l : List El} (h : Cert.told8 s l = some s') : s'.tbs = s.tbs ∧ s'.iss = s.iss ∧ s'.sub = s.sub ∧ s'.ser = s.ser ∧ s'.from_ = s.from_ ∧ s'.to = s.to ∧ s'.n = s.n ∧ s'.e = s.e := by
  unfold Cert.told8 at h
  split at h
  · injection h with h; subst h; exact ⟨rfl, rfl, rfl, rfl, rfl, rfl, rfl, rfl⟩
  · simp only [Option.bind_eq_some_iff] at h
    obtain ⟨_, _, _, _, _, _, _, _, h⟩ := h
    injection h with h; subst h; exact ⟨rfl, rfl, rfl, rfl, rfl, rfl, rfl, rfl⟩
theorem signed_tbs {f : Fl} {x : El} {s : Sg} (h : Cert.signed f x = some s) : s.tbs = x.2.2 := by
  simp only [Cert.signed, Sg.a, Sg.b, Sg.c, Sg.d, Sg.e_, Sg.f, Sg.g, Sg.h, Sg.i, Sg.j, Option.bind_eq_some_iff] at h
  obtain ⟨_, _, _, _, _, _, _, _, _, _, _, _, _, _, _, _, _, _, _, _, _, _, _, _, _, _, h⟩ := h
  exact (told8_tbs h).1

set_option maxHeartbeats 4000000 in
theorem parse_cert_any (A : Option Addr) (n c : Nat) (b : List UInt8) (w : World) (h : Rd w w.heap.size A n c b) :
    Calls Try.prog 16 #[.slice A n c] w (ParseC b w) := by
  have hmf : ∀ (fn : Fn) (first cap : Array Value) (w : World), (Instr.makeFunc fn first cap).run Try.prog w = .ok (.func fn first cap) w := fun _ _ _ _ => rfl
  have hnl := h.len
  go_enter_defers Try.func16, Try.ntmps16
  have hB0 : Bc ((w.alloc (.cells CV.zero.cells 32)).alloc (.cells #[.int .i64 0] 33)) w.heap.size CV.zero := Blk.alloc (Blk.new w _ _) _
  have hE0 : Blk ((w.alloc (.cells CV.zero.cells 32)).alloc (.cells #[.int .i64 0] 33)) (w.heap.size + 1) 33 #[.int .i64 0] := Blk.new' _ _ (by simp)
  by_cases h8 : 8192 < n
  · have h8' : (8192 : Int) < n := by omega
    go_wp2_with (first
      | ((with_reducible refine at_store_cert ?_); refine wpList_store_cert rfl _ _ rfl w.heap.size CV.zero CV.zero rfl rfl hB0 CV.zero_cells ?_; intro w1 hB1 hg1; have hE1 := hE0.grown hg1 (fun e => by injection e with e; omega); have he0 := hE1.cell 0; have he1 := hE1.frozen 0; simp only [List.getElem?_toArray, List.getElem?_cons_zero] at he0)
      | go_in)
    have hE2 := hE1.set_ 0 (.int .i64 10)
    have hB2 := Blk.far hB1 (p := ⟨w.heap.size + 1, 0, none⟩) (by simp) (.int .i64 10)
    refine ⟨_, parse_results _ rfl rfl hB2 hE2, ?_, .inl ⟨10, by unfold Cert.parse; rw [if_pos (by omega)], by omega, rfl⟩⟩
    exact (((Below.refl _ w).alloc (Nat.le_refl _) _).alloc (by simp) _ |>.grown hg1 (by have := hg1.size; simp only [World.size_alloc] at this ⊢; omega) (fun j hj => by cases hj; exact Nat.le_refl _)).setCell (by simp) _
  have h8' : ¬ (8192 : Int) < n := by omega
  have hrd : Rd ((w.alloc (.cells CV.zero.cells 32)).alloc (.cells #[.int .i64 0] 33)) ((w.alloc (.cells CV.zero.cells 32)).alloc (.cells #[.int .i64 0] 33)).heap.size A n c b := (((h.alloc (Nat.le_refl _) _).alloc (by simp) _).more (by simp; omega))
  go_wp2_with fail
  refine (check_any A n c b _ hrd).mono ?_
  rintro e w1 ⟨rfl, hb1⟩
  have hs1 := hb1.size
  simp only [World.size_alloc] at hs1
  have hbw1 : Below w.heap.size w w1 := Below.trans (((Below.refl _ w).alloc (Nat.le_refl _) (.cells CV.zero.cells 32)).alloc (by simp) (.cells #[.int .i64 0] 33)) (hb1.mono (by simp; omega))
  have hB1 := hB0.below hb1 (by simp; omega)
  have hE1 := hE0.below hb1 (by simp)
  have hrd1 : Rd w1 w1.heap.size A n c b := hrd.up hb1
  obtain ⟨V, hV⟩ : ∃ V, Der.check b = V := ⟨_, rfl⟩
  rw [hV]
  have HV := Lib.hid (And.intro hV (And.intro hbw1 (And.intro hB1 (And.intro hE1 hrd1))))
  have HR0 := Lib.hid h
  clear hV hb1 hbw1 hB1 hE1 hrd hB0 hE0 hrd1 h
  have HN := Lib.hid hnl
  clear hnl
  by_cases hv : V = 0
  rotate_left
  · have hv' : ¬ (V : Int) = 0 := by omega
    go_wp2_with (first
      | ((with_reducible refine at_store_cert ?_); refine wpList_store_cert rfl _ _ rfl w.heap.size CV.zero CV.zero rfl rfl HV.out.2.2.1 CV.zero_cells ?_; intro w2 hB2 hg2; have hE2 := HV.out.2.2.2.1.grown hg2 (fun e => by injection e with e; omega); have he0 := hE2.cell 0; have he1 := hE2.frozen 0; simp only [List.getElem?_toArray, List.getElem?_cons_zero] at he0)
      | go_in)
    have hE3 := hE2.set_ 0 (.int .i64 V)
    have hB3 := Blk.far hB2 (p := ⟨w.heap.size + 1, 0, none⟩) (by simp) (.int .i64 V)
    refine ⟨_, parse_results _ rfl rfl hB3 hE3, ?_, .inl ⟨V, by unfold Cert.parse; rw [if_neg (by have := HN.out; omega), if_pos (by rw [HV.out.1]; exact hv), HV.out.1], hv, rfl⟩⟩
    exact (HV.out.2.1.grown hg2 (by have := hg2.size; omega) (fun j hj => by cases hj; exact Nat.le_refl _)).setCell (by simp) _
  subst hv
  have hspec : Hid (Cert.parse b = match Cert.read b with | none => .no 9 | some p => .yes p.1 p.2) := Lib.hid (by unfold Cert.parse; rw [if_neg (by have := HN.out; omega), if_neg (by rw [HV.out.1]; simp)])
  have hno : Cert.read b = none → Cert.parse b = .no 9 := fun e => by rw [hspec.out, e]
  have HNO := Lib.hid hno
  clear hno
  go_wp2_with fail
  refine (clone_any A n c b _ HV.out.2.2.2.2 (by omega)).mono ?_
  rintro e w2 ⟨A2, n2, c2, rfl, hO2, hb2⟩
  have hs2 := hb2.size
  have hB2 := HV.out.2.2.1.below hb2 (by omega)
  have hP2 : PS w w2 CV.zero := ⟨HV.out.2.1.trans (hb2.mono (by omega)), hB2, HV.out.2.2.2.1.below hb2 (by omega)⟩
  have hrd2 := HV.out.2.2.2.2.up hb2
  have H2 := Lib.hid (And.intro hP2 (And.intro hO2 hrd2))
  clear hb2 hO2 hP2 hrd2
  go_wp2_with (first
    | ((with_reducible refine at_store_cert ?_); refine wpList_store_cert rfl _ _ rfl w.heap.size CV.zero {CV.zero with raw := .slice A2 n2 c2, fl := ⟨false, -1, -1, true⟩} rfl rfl hB2 (by
        intro v hv
        simp only [CV.zero, CV.cells, List.mem_cons, List.not_mem_nil, or_false] at hv
        rcases hv with rfl | rfl | rfl | rfl | rfl | rfl | rfl | rfl | rfl | rfl | rfl | rfl | rfl | rfl | rfl | rfl | rfl | rfl | rfl | rfl | rfl | rfl | rfl | rfl <;> rfl) ?_; intro w3 hB3 hg3)
    | fail)
  have HP3 : Hid (PS w w3 {CV.zero with raw := .slice A2 n2 c2, fl := ⟨false, -1, -1, true⟩}) := Lib.hid (H2.out.1.grown hg3 hB3)
  have hs3 := hg3.size
  have H3 := Lib.hid (H2.out.2.1.grownC hg3 (by omega) (Nat.le_refl _))
  clear hB2 hB3 hg3
  refine (only_any A n c b _ (HP3.out.rd HR0.out) (by have := HN.out; omega)).mono ?_
  rintro e w4 ⟨hb4, ⟨ho, rfl⟩ | ⟨⟨tx, bx, rx⟩, v, ho, rfl, A3, n3, c3, A4, n4, c4, rfl, hO4⟩⟩
  · have HH := Lib.hid (And.intro ho (HP3.out.below hb4))
    clear ho
    go_wp2
    exact parse_panics _ rfl rfl HH.out.2 fun W' hb => ⟨hb, .inl ⟨9, HNO.out (by unfold Cert.read; exact bnone HH.out.1), by omega, rfl⟩⟩

  have HP4 := Lib.hid (HP3.out.below hb4)
  have hs4 := hb4.size
  have H4 := Lib.hid (H3.out.below hb4 (by omega))
  have hR4 := (OwnB.rdx (hO4.rd (by simp : (Value.slice A3 n3 c3, bx) ∈ _)))
  have hlx : n3 ≤ n := by have := only_len ho; have := hR4.len; have := HN.out; simp at *; omega
  have hsp4 : Hid (Cert.read b = (Cert.parts 48 3 3 (tx, bx, rx)).bind fun l => (Cert.signed ⟨false, -1, -1, true⟩ (l.getD 0 El.none_)).bind fun s => (Cert.method 11 (l.getD 1 El.none_)).bind fun _ => (Cert.whole (l.getD 2 El.none_)).bind fun g => some (s, g)) := Lib.hid (by unfold Cert.read; exact bsome ho)
  have HR4 := Lib.hid hR4
  clear ho hb4 hO4 hR4
  go_wp2_with fail
  refine (parts_any tx A3 A4 n3 c3 n4 c4 48 3 3 bx rx _ HR4.out (by omega)).mono ?_
  rintro e w5 ⟨hb5, ⟨ho, rfl⟩ | ⟨l, v, ho, rfl, L, A5, n5, c5, rfl, hl, hE, hnl⟩⟩
  · have HH := Lib.hid (And.intro ho (HP4.out.below hb5))
    clear ho
    go_wp2
    exact parse_panics _ rfl rfl HH.out.2 fun W' hb => ⟨hb, .inl ⟨9, HNO.out (hsp4.out.trans (bnone HH.out.1)), by omega, rfl⟩⟩

  have hlen := must_len ho
  obtain rfl : n5 = 3 := by omega
  obtain ⟨g, rfl, hg, hg2⟩ := hE.spot_ (by omega)
  have HP5 := Lib.hid (HP4.out.below hb5)
  have hs5 := hb5.size
  have H5 := Lib.hid (H4.out.below hb5 (by omega))
  obtain ⟨t0, B1, m1, d1, b0, B2, m2, d2, r0, hd0, p0, p1, p2, R0, R1, hx0⟩ := hE.el hl (Below.refl w5.heap.size w5) (Nat.le_refl _) 0 0 (by omega) rfl
  have hm1 : m1 ≤ n := by have := (parts_small ho 0 hd0).1; have := R0.len; have := HR4.out.len; simp at *; omega
  have hsp5 : Hid (Cert.read b = (Cert.signed ⟨false, -1, -1, true⟩ (t0, b0, r0)).bind fun s => (Cert.method 11 (l.getD 1 El.none_)).bind fun _ => (Cert.whole (l.getD 2 El.none_)).bind fun g => some (s, g)) := Lib.hid (hsp4.out.trans ((bsome ho).trans (by rw [hd0])))
  have HE := Lib.hid (And.intro ho (And.intro hl (And.intro hE (And.intro R0 hx0))))
  clear ho hl hE hb5 hlen hnl R0 R1 hd0 hx0 hsp4
  go_wp2_with fail
  refine (signed_any w.heap.size {CV.zero with raw := .slice A2 n2 c2, fl := ⟨false, -1, -1, true⟩} t0 B1 B2 m1 d1 m2 d2 b0 r0 _ HP5.out.2.1 HE.out.2.2.2.1 (by omega)).mono ?_
  rintro e w6 ⟨hg6, ⟨ho, rfl, C', hC'⟩ | ⟨sg, v, ho, rfl, rfl, vi, vs, ve, vn, hB6, hrows, hap⟩⟩
  · have HH := Lib.hid (And.intro ho (HP5.out.grown hg6 hC'))
    clear ho
    go_wp2
    exact parse_panics _ rfl rfl HH.out.2 fun W' hb => ⟨hb, .inl ⟨9, HNO.out (hsp5.out.trans (bnone HH.out.1)), by omega, rfl⟩⟩

  have HP6 := Lib.hid (HP5.out.grown hg6 hB6)
  have hs6 := hg6.size
  have H6 := Lib.hid (H5.out.grownC hg6 (by omega) (by omega))
  have hE6 := HE.out.2.2.1.keepRows (KeepRows.grown hg6 (by omega))
  obtain ⟨t1, B3, m3, d3, b1, B4, m4, d4, r1, hd1, q0, q1, q2, R0, R1, _⟩ := hE6.el HE.out.2.1 (Below.refl _ w6) hs6 1 3 (by omega) rfl
  have hm3 : m3 ≤ n := by have := (parts_small HE.out.1 1 hd1).1; have := R0.len; have := HR4.out.len; simp at *; omega
  have hsp6 : Hid (Cert.read b = (Cert.method 11 (t1, b1, r1)).bind fun _ => (Cert.whole (l.getD 2 El.none_)).bind fun g => some (sg, g)) := Lib.hid (hsp5.out.trans ((bsome ho).trans (by rw [hd1])))
  have HS := Lib.hid (And.intro hrows (And.intro hap (And.intro hE6 (And.intro R0 ho))))
  clear ho hg6 hB6 hrows hap hE6 hd1 R0 R1 hsp5 p0 p1 p2
  go_wp2_with fail
  refine (method_any t1 B3 B4 m3 d3 m4 d4 11 b1 r1 _ (HS.out.2.2.2.1.more hs6) (by omega)).mono ?_
  rintro e w7 ⟨hb7, ⟨ho, rfl⟩ | ⟨_, v, ho, rfl, rfl⟩⟩
  · have HH := Lib.hid (And.intro ho (HP6.out.below hb7))
    clear ho
    go_wp2
    exact parse_panics _ rfl rfl HH.out.2 fun W' hb => ⟨hb, .inl ⟨9, HNO.out (hsp6.out.trans (bnone HH.out.1)), by omega, rfl⟩⟩

  have HP7 := Lib.hid (HP6.out.below hb7)
  have hs7 := hb7.size
  have H7 := Lib.hid (H6.out.below hb7 (by omega))
  have hE7 := HS.out.2.2.1.keepRows (KeepRows.below hb7 (Nat.le_refl _))
  obtain ⟨t2, B5, m5, d5, b2, B6, m6, d6, r2, hd2, s0, s1, s2, R0, R1, _⟩ := hE7.el HE.out.2.1 (Below.refl _ w7) (by omega) 2 6 (by omega) rfl
  have hm5 : m5 ≤ n := by have := (parts_small HE.out.1 2 hd2).1; have := R0.len; have := HR4.out.len; simp at *; omega
  have hsp7 : Hid (Cert.read b = (Cert.whole (t2, b2, r2)).bind fun g => some (sg, g)) := Lib.hid (hsp6.out.trans ((bsome ho).trans (by rw [hd2])))
  have HW := Lib.hid (And.intro hE7 (And.intro R0 hb7))
  clear ho hb7 hE7 hd2 R0 R1 hsp6 q0 q1 q2
  go_wp2_with fail
  refine (whole_any t2 B5 B6 m5 d5 m6 d6 b2 r2 _ (HW.out.2.1.more (by omega)) (by omega)).mono ?_
  rintro e w8 ⟨hb8, ⟨ho, rfl⟩ | ⟨gs, v, ho, rfl, B7, m7, d7, rfl, hO8⟩⟩
  · have HH := Lib.hid (And.intro ho (HP7.out.below hb8))
    clear ho
    go_wp2
    exact parse_panics _ rfl rfl HH.out.2 fun W' hb => ⟨hb, .inl ⟨9, HNO.out (hsp7.out.trans (bnone HH.out.1)), by omega, rfl⟩⟩

  have HP8 := Lib.hid (HP7.out.below hb8)
  have hs8 := hb8.size
  have hsp8 : Hid (Cert.parse b = .yes sg gs) := Lib.hid (by rw [hspec.out, hsp7.out, ho]; rfl)
  have HO := Lib.hid (And.intro hO8 hb8)
  have hB8 := HP8.out.2.1
  have k0 : w8.cell? ⟨w.heap.size, 19, none⟩ = some (.slice none 0 0) := hB8.at_ 19
  have k1 := hB8.frozen 19
  clear ho hb8 hO8 hsp7 s0 s1 s2
  have hB9 := hB8.sig_ (.slice B7 m7 d7)
  have hrows6 := HS.out.1
  have hone := CV.one (C := {CV.zero with raw := .slice A2 n2 c2, tbs := .slice B2 m2 d2, iss := vi, sub := vs, ser := ve, from_ := sg.from_, to := sg.to, n := vn, e := sg.e, sig := .slice B7 m7 d7, fl := sg.fl}) rfl rfl (ownB_one (hrows6 (vi, sg.iss) (by simp))) (ownB_one (hrows6 (vs, sg.sub) (by simp))) (ownB_one (hrows6 (ve, sg.ser) (by simp))) (ownB_one (hrows6 (vn, sg.n) (by simp))) rfl
  go_wp2_with (first
    | ((with_reducible refine at_load_cert ?_); refine wpList_load_cert rfl _ rfl w.heap.size _ rfl hB9 ?_)
    | ((with_reducible refine at_store_cert ?_); refine wpList_store_cert rfl _ _ rfl w.heap.size _ _ rfl rfl hB9 hone ?_; intro w10 hB10 hg10; have hE10 := (Blk.far HP8.out.2.2 (p := ⟨w.heap.size, 19, none⟩) (by simp) (.slice B7 m7 d7)).grown hg10 (fun e => by injection e with e; omega); have he0 := hE10.cell 0; have he1 := hE10.frozen 0; simp only [List.getElem?_toArray, List.getElem?_cons_zero] at he0)
    | go_in)
  have hs10 := hg10.size
  simp only [World.size_setCell] at hs10
  have tr : ∀ (v : Value) (xs : List UInt8) (lo hi : Nat), w.heap.size + 1 < lo → hi ≤ w8.heap.size → OwnB w8 lo hi v xs → OwnB (w10.setCell ⟨w.heap.size + 1, 0, none⟩ (.int .i64 0)) lo hi v xs := fun v xs lo hi h1 h2 h3 =>
    ((h3.setCell (p := ⟨w.heap.size, 19, none⟩) (by simp; omega) (.slice B7 m7 d7)).grownC hg10 (by omega) (by simpa using h2)).setCell (p := ⟨w.heap.size + 1, 0, none⟩) (by simp; omega) _
  have ha := tr _ _ _ _ (by omega) (by omega) (H7.out.below HO.out.2 (by omega))
  have hb := tr _ _ _ _ (by omega) (by omega) ((HW.out.1.own2 HE.out.2.2.2.2).below HO.out.2 (by omega))
  have hc : ∀ p ∈ [(vi, sg.iss), (vs, sg.sub), (ve, sg.ser), (vn, sg.n)], OwnB (w10.setCell ⟨w.heap.size + 1, 0, none⟩ (.int .i64 0)) (w5.heap.size + 1) w6.heap.size p.1 p.2 := fun p hp =>
    tr _ _ _ _ (by omega) (by omega) (((hrows6 p hp).below HW.out.2.2 (Nat.le_refl _)).below HO.out.2 (by omega))
  have hd := tr _ _ _ _ (by omega) (by omega) HO.out.1
  have htb : sg.tbs = r0 := signed_tbs HS.out.2.2.2.2
  have hbw : Below w.heap.size w (w10.setCell ⟨w.heap.size + 1, 0, none⟩ (.int .i64 0)) :=
    ((HP8.out.1.setCell (p := ⟨w.heap.size, 19, none⟩) (Nat.le_refl _) (.slice B7 m7 d7)).grown hg10 (by have := HP8.out.1.size; simp; omega) (fun j hj => by cases hj; exact Nat.le_refl _)).setCell (by simp) _
  refine parse_returns _ rfl rfl ⟨hbw, Blk.far hB10 (p := ⟨w.heap.size + 1, 0, none⟩) (by simp) _, hE10.set_ 0 _⟩ ⟨hbw, .inr ⟨sg, gs, .slice A2 n2 c2, .slice B2 m2 d2, vi, vs, ve, vn, .slice B7 m7 d7, hsp8.out, rfl, ?_, ?_⟩⟩
  · intro p hp
    simp only [List.mem_cons, List.not_mem_nil, or_false] at hp
    rcases hp with rfl | rfl | hp | hp | hp | hp | rfl
    · exact ha.mono (by omega) (by simp; omega)
    · rw [htb]; exact hb.mono (by omega) (by simp; omega)
    · exact (hc p (by simp [hp])).mono (by omega) (by simp; omega)
    · exact (hc p (by simp [hp])).mono (by omega) (by simp; omega)
    · exact (hc p (by simp [hp])).mono (by omega) (by simp; omega)
    · exact (hc p (by simp [hp])).mono (by omega) (by simp; omega)
    · exact hd.mono (by omega) (by simp; omega)
  · rw [htb]
    have o1 : ∀ p ∈ [(Value.slice A2 n2 c2, b)], OwnB (w10.setCell ⟨w.heap.size + 1, 0, none⟩ (.int .i64 0)) w1.heap.size w2.heap.size p.1 p.2 := fun p hp => by obtain rfl := List.mem_singleton.1 hp; exact ha
    have o2 : ∀ p ∈ [(Value.slice B2 m2 d2, r0)], OwnB (w10.setCell ⟨w.heap.size + 1, 0, none⟩ (.int .i64 0)) w2.heap.size w5.heap.size p.1 p.2 := fun p hp => by obtain rfl := List.mem_singleton.1 hp; exact hb.mono (by omega) (Nat.le_refl _)
    have o4 : ∀ p ∈ [(Value.slice B7 m7 d7, gs)], OwnB (w10.setCell ⟨w.heap.size + 1, 0, none⟩ (.int .i64 0)) w6.heap.size w8.heap.size p.1 p.2 := fun p hp => by obtain rfl := List.mem_singleton.1 hp; exact hd.mono (by omega) (Nat.le_refl _)
    have ap1 := apart_fwd (fun p hp => (hc p hp).mono (Nat.le_succ _) (Nat.le_refl _)) o4 HS.out.2.1 (by simp [Apart'])
    have ap2 := apart_fwd (lo := w2.heap.size) (hi := w8.heap.size) o2 (fun p hp => by
      rcases List.mem_append.1 hp with hp | hp
      · exact (hc p hp).mono (Nat.le_succ _) (by omega)
      · exact (o4 p hp).mono (by omega) (Nat.le_refl _)) (by simp [Apart']) ap1
    exact apart_fwd (lo := w1.heap.size) (mid := w2.heap.size) (hi := w8.heap.size) (l := [(Value.slice A2 n2 c2, b)]) (l' := [(Value.slice B2 m2 d2, r0)] ++ ([(vi, sg.iss), (vs, sg.sub), (ve, sg.ser), (vn, sg.n)] ++ [(Value.slice B7 m7 d7, gs)])) o1 (fun p hp => by
      rcases List.mem_append.1 hp with hp | hp
      · exact (o2 p hp).mono (Nat.le_refl _) (by omega)
      · rcases List.mem_append.1 hp with hp | hp
        · exact (hc p hp).mono (by omega) (by omega)
        · exact (o4 p hp).mono (by omega) (Nat.le_refl _)) (by simp [Apart']) ap2
end Go.Proofs.Ytmnekhliblkibaa
end
