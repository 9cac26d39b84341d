/- The contract of the document's signed. (Its drawn region is printed by genrc11.py from XRC11_0.txt.) -/
import Derived.Test.YtmnekhliblkibaaRC10
namespace Go.Proofs.Ytmnekhliblkibaa
open Go.RowKit
set_option maxRecDepth 1000000
set_option linter.unusedVariables false
set_option linter.unusedSimpArgs false

/-- What signed hands back. -/
def SgQ (w : World) (C : CV) (o : Option Sg) (e : Ending) (w' : World) : Prop :=
  ∃ (q : Bool) (D : CV), e = .returned (.tuple #[D.val, .bool q]) ∧ Below w.heap.size w w' ∧ (∀ v ∈ D.cells.toList, v.oneCell' = true) ∧
    (q = false → o = none) ∧ (q = true → ∃ s, o = some s ∧ D.raw = C.raw ∧ D.sig = C.sig ∧ D.from_ = s.from_ ∧ D.to = s.to ∧ D.e = s.e ∧ D.fl = s.fl ∧ RdT w' D.tbs s.tbs ∧ RdT w' D.iss s.iss ∧ RdT w' D.sub s.sub ∧ RdT w' D.ser s.ser ∧ RdT w' D.n s.n)
/-- Rows that read as bytes. -/
def RL (W : World) (l : List (Value × List UInt8)) : Prop := ∀ p ∈ l, RdT W p.1 p.2
theorem RL.below {W W' : World} {l : List (Value × List UInt8)} (h : RL W l) (hb : Below W.heap.size W W') : RL W' l := fun p hp => (h p hp).below hb
theorem RL.far {W W' : World} {l : List (Value × List UInt8)} {g : Nat} {C : CV} (h : RL W l) (hg : W.grownBy W' (some g)) (hb : Bc W g C) : RL W' l := fun p hp => (h p hp).far hg hb
theorem RL.cons {W : World} {l : List (Value × List UInt8)} {v : Value} {xs : List UInt8} (h : RdT W v xs) (hl : RL W l) : RL W ((v, xs) :: l) := fun p hp => by
  rcases List.mem_cons.1 hp with rfl | hp
  · exact h
  · exact hl p hp
theorem RL.nil {W : World} : RL W [] := fun p hp => by simp at hp
theorem RL.one {W : World} {l : List (Value × List UInt8)} (h : RL W l) {p : Value × List UInt8} (hp : p ∈ l) : p.1.oneCell' = true := rdt_one' (h p hp)

theorem CV.parts_one {C : CV} (h : ∀ v ∈ C.cells.toList, v.oneCell' = true) : C.raw.oneCell' = true ∧ C.n.oneCell' = true ∧ C.sig.oneCell' = true :=
  ⟨h _ (by unfold CV.cells; simp), h _ (by unfold CV.cells; simp), h _ (by unfold CV.cells; simp)⟩
def JW (L : List (Value → Prop)) (i : Nat) (v : Value) (_ : World) : Prop := (L.getD i fun _ => True) v
/-- The answer of extensions, by parts. -/
def JF (C : CV) (o : Option Fl) : Nat → Value → Prop
  | 0, v => ∃ f, v = .tuple #[CV.val {C with fl := f}, .bool o.isSome] ∧ ∀ p, o = some p → p = f
  | 1, v => ∃ f, v = CV.val {C with fl := f} ∧ ∀ p, o = some p → p = f
  | _, v => v = .bool o.isSome
def JG (gr : Nat) (C : CV) (o : Option Fl) (w : World) : Prop := ∃ f, Bc w gr {C with fl := f} ∧ ∀ p, o = some p → p = f
theorem FlQ.jf {C : CV} {o : Option Fl} {w w' : World} {e : Ending} (h : FlQ w C o e w') : ∃ v, e = .returned v ∧ JF C o 0 v ∧ Below w.heap.size w w' := by
  obtain ⟨q, f, rfl, hb, ho⟩ := h
  cases q with
  | false => exact ⟨_, rfl, ⟨f, by rw [ho]; rfl, fun p hp => by rw [ho] at hp; cases hp⟩, hb⟩
  | true => exact ⟨_, rfl, ⟨f, by rw [ho]; rfl, fun p hp => by rw [ho] at hp; injection hp with hp; exact hp.symm⟩, hb⟩
section
variable {o : Oper} {a : Act} {w : World} {Q : Exit → Act → World → Prop}
theorem N_jf1 {C : CV} {oo : Option Fl} {x : Operand} (ho : o.op = .extract x 0) (hd : o.dst ≠ none) (hx : JF C oo 0 (a.eval x)) : o.wp Try.prog a w (KN a o (fun v _ => JF C oo 1 v) w) Q := by
  obtain ⟨f, e, hp⟩ := hx
  exact N_val (by simp only [execOp, ho, e]; rfl) hd ⟨f, rfl, hp⟩
theorem N_jf2 {C : CV} {oo : Option Fl} {x : Operand} (ho : o.op = .extract x 1) (hd : o.dst ≠ none) (hx : JF C oo 0 (a.eval x)) : o.wp Try.prog a w (KN a o (fun v _ => JF C oo 2 v) w) Q := by
  obtain ⟨f, e, hp⟩ := hx
  exact N_val (by simp only [execOp, ho, e]; rfl) hd rfl
end
/-- While signed works. -/
structure S5 (w W : World) (C : CV) (hi : Nat) (A : Option Addr) (n c : Nat) (L : List EI) (l : List (Value × List UInt8)) : Prop where
  p : P3 w W C
  own : OwnE W (w.heap.size + 1 + 1 + 1) hi (.slice A n c) L
  top : hi ≤ W.heap.size
  rl : RL W l
section
variable {w W W' : World} {C C' : CV} {hi n c : Nat} {A : Option Addr} {L : List EI} {l : List (Value × List UInt8)}
theorem S5.below (h : S5 w W C hi A n c L l) (hb : Below W.heap.size W W') : S5 w W' C hi A n c L l :=
  ⟨h.p.below hb, h.own.keepRows (KeepRows.below hb (Nat.le_refl _)), Nat.le_trans h.top hb.size, h.rl.below hb⟩
theorem S5.grown (h : S5 w W C hi A n c L l) (hg : W.grownBy W' (some w.heap.size)) (hC : Bc W' w.heap.size C') : S5 w W' C' hi A n c L l :=
  ⟨h.p.grown hg hC, h.own.keepRows (KeepRows.grown hg (by omega)), Nat.le_trans h.top hg.size, h.rl.far hg h.p.1⟩
theorem S5.more (h : S5 w W C hi A n c L l) {v : Value} {xs : List UInt8} (hr : RdT W v xs) : S5 w W C hi A n c L ((v, xs) :: l) := ⟨h.p, h.own, h.top, RL.cons hr h.rl⟩
theorem S5.el {g : Nat} (h : S5 w W C hi (some ⟨g, 0, none⟩) n c L l) {ll : List El} (hl : ll = L.map EI.dat) (k o : Nat) (hk : k < n) (ho : o = k * 3) :
    ∃ t A1 n1 c1 body A2 n2 c2 raw, ll.getD k El.none_ = (t, body, raw) ∧ W.cell? ⟨g, o, none⟩ = some (.int .u8 (t.toNat : Int)) ∧ W.cell? ⟨g, o + 1, none⟩ = some (.slice A1 n1 c1) ∧ W.cell? ⟨g, o + 2, none⟩ = some (.slice A2 n2 c2) ∧
      RdT W (.slice A1 n1 c1) body ∧ RdT W (.slice A2 n2 c2) raw := by
  obtain ⟨t, A1, n1, c1, body, A2, n2, c2, raw, h1, h2, h3, h4, _, _, h7⟩ := h.own.el hl (Below.refl W.heap.size W) h.top k o hk ho
  have := h.own.rdt h7 h.top
  exact ⟨t, A1, n1, c1, body, A2, n2, c2, raw, h1, h2, h3, h4, this.1, this.2⟩
theorem S5.ret {wz : World} {o : Option Sg} {C0 : CV} {tmps : Array Value} (hone : ∀ v ∈ C.cells.toList, v.oneCell' = true) (h : S5 w W C hi A n c L l)
    (hg : W.grownBy wz (some (w.heap.size + 1 + 1))) (hB : Bc wz (w.heap.size + 1 + 1) C) (ho : o = none) (h4 : tmps.getD 4 undef = .pointer (some ⟨w.heap.size + 1 + 1, 0, none⟩)) (h5 : tmps.getD 5 undef = .bool false) :
    bodyPost Try.prog Try.f50 (SgQ w C0 o) .ret { tmps := tmps, defers := [] } wz := by
  refine bodyPost_ret (results_cell_tmp Try.results50 _ _ _ _ _ h4 (load_cert hB)) rfl ?_
  rw [h5]
  exact ⟨false, C, rfl, below_grow h.p.2.2.1 hg (by omega) (by have := h.p.2.2.2; omega), hone, fun _ => ho, fun h => by cases h⟩
end

set_option maxHeartbeats 16000000 in
theorem rsigned_any (C : CV) (hC : ∀ v ∈ C.cells.toList, v.oneCell' = true) (t : UInt8) (A1 A2 : Option Addr) (n1 c1 n2 c2 : Nat) (b r : List UInt8) (w : World) (h1 : Rd w w.heap.size A1 n1 c1 b) (h2 : RdT w (.slice A2 n2 c2) r) (hn : n1 ≤ 1099511627) :
    Calls Try.prog 50 #[C.val, .agg #[.int .u8 (t.toNat : Int), .slice A1 n1 c1, .slice A2 n2 c2]] w (SgQ w C (RC.signed C.fl (t, b, r))) := by
  have hP0 := P3.start w C #[.int .u8 (t.toNat : Int), .slice A1 n1 c1, .slice A2 n2 c2]
  have hX0 : Blk (((w.alloc (.cells C.cells 32)).alloc (.cells #[.int .u8 (t.toNat : Int), .slice A1 n1 c1, .slice A2 n2 c2] 50)).alloc (.cells CV.zero.cells 32)) (w.heap.size + 1) 50 #[.int .u8 (t.toNat : Int), .slice A1 n1 c1, .slice A2 n2 c2] := Blk.alloc (Blk.new' _ _ (by simp)) _
  have hR0 := ((h2.alloc (.cells C.cells 32)).alloc (.cells #[.int .u8 (t.toNat : Int), .slice A1 n1 c1, .slice A2 n2 c2] 50)).alloc (.cells CV.zero.cells 32)
  have HLB := Lib.hid h1.len
  show Calls _ _ #[.agg C.cells, _] _ _
  have hcl : C.cells.size = 24 := rfl
  go_enter Try.func50, Try.ntmps50
  go_wp2_with fail
  refine (rparts_any t A1 A2 n1 c1 n2 c2 48 b r _ ((((h1.alloc (Nat.le_refl _) _).alloc (by simp) _).alloc (by simp; omega) _).more (by simp; omega)) hn).mono ?_
  rintro e w1 ⟨q, A, n, c, L, rfl, hb1, hE, hnl, hm, ho⟩
  have hP1 := hP0.below hb1
  obtain ⟨l, hl⟩ : ∃ l, l = L.map EI.dat := ⟨_, rfl⟩
  rw [← hl] at hm ho
  have hll : l.length = n := by rw [hl, List.length_map]; exact hnl.symm
  have hS1 : S5 w w1 C w1.heap.size A n c L [(.slice A2 n2 c2, r)] := ⟨hP1, hE.mono (lo' := w.heap.size + 1 + 1 + 1) (by simp) (Nat.le_refl _), Nat.le_refl _, RL.cons (hR0.below hb1) RL.nil⟩
  have hX1 := hX0.below hb1 (by simp)
  have H1 := Lib.hid (And.intro hS1 (And.intro hX1 (And.intro hm (And.intro ho (And.intro hl hll)))))
  have hs1 : w.heap.size + 1 + 1 + 1 ≤ w1.heap.size := hP1.2.2.2
  clear hP0 hP1 hb1 hE hm ho h1 hnl hl hll hS1 hX1 hX0 hR0 h2
  cases q with
  | false =>
    go_wp2_with (first | ((with_reducible refine at_load_cert ?_); refine wpList_load_cert rfl _ rfl (w.heap.size) (C) rfl (H1.out.1.p.1) ?_) | ((with_reducible refine at_store_cert ?_); refine wpList_store_cert rfl _ _ rfl (w.heap.size + 1 + 1) CV.zero (C) rfl rfl (H1.out.1.p.2.1) (hC) ?_; intro wz hBz hgz) | fail)
    refine S5.ret hC H1.out.1 hgz hBz ?_ rfl rfl
    unfold RC.signed; rw [H1.out.2.2.2.1]; rfl
  | true =>
  have hsp : RC.signed C.fl (t, b, r) = (Cert.must (RC.first l)).bind fun _ => (Cert.number (l.getD 1 El.none_)).bind fun n =>
      (Cert.must (decide (0 < n.length) && decide ((l.getD 1 El.none_).2.1.length ≤ 20))).bind fun _ => (RC.parts 48 (l.getD 4 El.none_)).bind fun v => (Cert.must (decide (v.length = 2))).bind fun _ =>
        (Cert.moment (v.getD 0 El.none_)).bind fun a => (Cert.moment (v.getD 1 El.none_)).bind fun b => (RC.key (l.getD 6 El.none_)).bind fun k => (Cert.must (!Stamp.less b a)).bind fun _ =>
          (if l.length = 8 then RC.extensions C.fl (l.getD 7 El.none_) else some C.fl).bind fun g =>
            some ⟨r, (l.getD 3 El.none_).2.2, (l.getD 5 El.none_).2.2, (l.getD 1 El.none_).2.1, a, b, k.1, k.2, g⟩ := by
    unfold RC.signed
    rw [H1.out.2.2.2.1]
    rfl
  have HS := Lib.hid hsp
  clear hsp
  have hno : RC.first l = false → RC.signed C.fl (t, b, r) = none := fun h => by rw [HS.out, must_f h]; rfl
  have HNO := Lib.hid hno
  clear hno
  by_cases h7 : n < 7
  case pos =>
    have h7' : (n : Int) < 7 := by omega
    go_wp2_with (first | ((with_reducible refine at_load_cert ?_); refine wpList_load_cert rfl _ rfl (w.heap.size) (C) rfl (H1.out.1.p.1) ?_) | ((with_reducible refine at_store_cert ?_); refine wpList_store_cert rfl _ _ rfl (w.heap.size + 1 + 1) CV.zero (C) rfl rfl (H1.out.1.p.2.1) (hC) ?_; intro wz hBz hgz) | fail)
    refine S5.ret hC H1.out.1 hgz hBz (HNO.out ?_) rfl rfl
    unfold RC.first
    rw [decide_eq_false (by have := H1.out.2.2.2.2.2; omega)]; rfl
  by_cases h8 : 8 < n
  case pos =>
    have h7' : ¬ (n : Int) < 7 := by omega
    have h8' : (8 : Int) < n := by omega
    go_wp2_with (first | ((with_reducible refine at_load_cert ?_); refine wpList_load_cert rfl _ rfl (w.heap.size) (C) rfl (H1.out.1.p.1) ?_) | ((with_reducible refine at_store_cert ?_); refine wpList_store_cert rfl _ _ rfl (w.heap.size + 1 + 1) CV.zero (C) rfl rfl (H1.out.1.p.2.1) (hC) ?_; intro wz hBz hgz) | fail)
    refine S5.ret hC H1.out.1 hgz hBz (HNO.out ?_) rfl rfl
    unfold RC.first
    rw [decide_eq_false (p := l.length ≤ 8) (by have := H1.out.2.2.2.2.2; omega)]; simp
  have h7' : ¬ (n : Int) < 7 := by omega
  have h8' : ¬ (8 : Int) < n := by omega
  have i0 : (0 : Int) < n := by omega
  have i1 : (1 : Int) < n := by omega
  have i2 : (2 : Int) < n := by omega
  have i3 : (3 : Int) < n := by omega
  have i4 : (4 : Int) < n := by omega
  have i5 : (5 : Int) < n := by omega
  have i6 : (6 : Int) < n := by omega
  have j0 : 0 < n := by omega
  have j1 : 1 < n := by omega
  have j2 : 2 < n := by omega
  have j3 : 3 < n := by omega
  have j4 : 4 < n := by omega
  have j5 : 5 < n := by omega
  have j6 : 6 < n := by omega
  obtain ⟨g, rfl, hg, hg2⟩ := H1.out.1.own.spot_ (by omega)
  obtain ⟨t0, B0, m0, d0, y0, D0, k0, e0, x0, hx0, p00, p01, p02, R00, R01⟩ := H1.out.1.el H1.out.2.2.2.2.1 0 0 (by omega) rfl
  obtain ⟨t1, B1, m1, d1, y1, D1, k1, e1, x1, hx1, p10, p11, p12, R10, R11⟩ := H1.out.1.el H1.out.2.2.2.2.1 1 3 (by omega) rfl
  obtain ⟨t2, B2, m2, d2, y2, D2, k2, e2, x2, hx2, p20, p21, p22, R20, R21⟩ := H1.out.1.el H1.out.2.2.2.2.1 2 6 (by omega) rfl
  obtain ⟨t3, B3, m3, d3, y3, D3, k3, e3, x3, hx3, p30, p31, p32, R30, R31⟩ := H1.out.1.el H1.out.2.2.2.2.1 3 9 (by omega) rfl
  obtain ⟨t5, B5, m5, d5, y5, D5, k5, e5, x5, hx5, p50, p51, p52, R50, R51⟩ := H1.out.1.el H1.out.2.2.2.2.1 5 15 (by omega) rfl
  have hst0 := run_string R01.rd 9 Try.underlying9
  have hst2 := run_string R21.rd 9 Try.underlying9
  obtain ⟨z0, hz0⟩ : ∃ z0, (x0 == [160, 3, 2, 1, 2]) = z0 := ⟨_, rfl⟩
  obtain ⟨z2, hz2⟩ : ∃ z2, (x2 == [48, 13, 6, 9, 42, 134, 72, 134, 247, 13, 1, 1, 11, 5, 0]) = z2 := ⟨_, rfl⟩
  obtain ⟨z3, hz3⟩ : ∃ z3, ((t3.toNat : Int) == 48) = z3 := ⟨_, rfl⟩
  obtain ⟨z5, hz5⟩ : ∃ z5, ((t5.toNat : Int) == 48) = z5 := ⟨_, rfl⟩
  have hz3' : ((t3.toNat : Int) != 48) = !z3 := by rw [bne, hz3]
  have hz5' : ((t5.toNat : Int) != 48) = !z5 := by rw [bne, hz5]
  have hfirst : RC.first l = (z0 && z2 && z3 && z5) := by
    unfold RC.first
    rw [hx0, hx2, hx3, hx5, decide_eq_true (p := 7 ≤ l.length) (by have := H1.out.2.2.2.2.2; omega), decide_eq_true (p := l.length ≤ 8) (by have := H1.out.2.2.2.2.2; omega)]
    rw [show (x0 == Ref.version) = z0 from hz0, show (x2 == Ref.signAlg) = z2 from hz2]
    dsimp only
    rw [hz3, hz5]
    rfl
  have hl1 := len_mem H1.out.2.2.1 hx1
  have hm1 : m1 ≤ 1099511627776 := by have := R10.rd.len; omega
  have HX := Lib.hid (And.intro hfirst (And.intro hx1 (And.intro hx3 (And.intro hx5 (And.intro R10 (And.intro R31 R51))))))
  clear hfirst hx0 hx1 hx2 hx3 hx5 R00 R01 R10 R11 R20 R21 R30 R31 R50 R51 hl1 hz3 hz5
  by_cases hall : (z0 && z2 && z3 && z5) = true
  case neg =>
    have hno : RC.signed C.fl (t, b, r) = none := HNO.out (by rw [HX.out.1]; simpa using hall)
    have HN := Lib.hid hno
    clear hno
    have hcases : z0 = false ∨ (z0 = true ∧ z2 = false) ∨ (z0 = true ∧ z2 = true ∧ z3 = false) ∨ (z0 = true ∧ z2 = true ∧ z3 = true ∧ z5 = false) := by
      cases z0 <;> cases z2 <;> cases z3 <;> cases z5 <;> simp_all
    clear hall
    rcases hcases with rfl | ⟨rfl, rfl⟩ | ⟨rfl, rfl, rfl⟩ | ⟨rfl, rfl, rfl, rfl⟩
    · go_wp2_with (first | ((with_reducible refine at_load_cert ?_); refine wpList_load_cert rfl _ rfl (w.heap.size) (C) rfl (H1.out.1.p.1) ?_) | ((with_reducible refine at_store_cert ?_); refine wpList_store_cert rfl _ _ rfl (w.heap.size + 1 + 1) CV.zero (C) rfl rfl (H1.out.1.p.2.1) (hC) ?_; intro wz hBz hgz) | fail)
      exact S5.ret hC H1.out.1 hgz hBz HN.out rfl rfl
    · go_wp2_with (first | ((with_reducible refine at_load_cert ?_); refine wpList_load_cert rfl _ rfl (w.heap.size) (C) rfl (H1.out.1.p.1) ?_) | ((with_reducible refine at_store_cert ?_); refine wpList_store_cert rfl _ _ rfl (w.heap.size + 1 + 1) CV.zero (C) rfl rfl (H1.out.1.p.2.1) (hC) ?_; intro wz hBz hgz) | fail)
      exact S5.ret hC H1.out.1 hgz hBz HN.out rfl rfl
    · go_wp2_with (first | ((with_reducible refine at_load_cert ?_); refine wpList_load_cert rfl _ rfl (w.heap.size) (C) rfl (H1.out.1.p.1) ?_) | ((with_reducible refine at_store_cert ?_); refine wpList_store_cert rfl _ _ rfl (w.heap.size + 1 + 1) CV.zero (C) rfl rfl (H1.out.1.p.2.1) (hC) ?_; intro wz hBz hgz) | fail)
      exact S5.ret hC H1.out.1 hgz hBz HN.out rfl rfl
    · go_wp2_with (first | ((with_reducible refine at_load_cert ?_); refine wpList_load_cert rfl _ rfl (w.heap.size) (C) rfl (H1.out.1.p.1) ?_) | ((with_reducible refine at_store_cert ?_); refine wpList_store_cert rfl _ _ rfl (w.heap.size + 1 + 1) CV.zero (C) rfl rfl (H1.out.1.p.2.1) (hC) ?_; intro wz hBz hgz) | fail)
      exact S5.ret hC H1.out.1 hgz hBz HN.out rfl rfl
  obtain ⟨⟨⟨rfl, rfl⟩, rfl⟩, rfl⟩ : ((z0 = true ∧ z2 = true) ∧ z3 = true) ∧ z5 = true := by simpa using hall
  have hsp2 : RC.signed C.fl (t, b, r) = (Cert.number (t1, y1, x1)).bind fun nn =>
      (Cert.must (decide (0 < nn.length) && decide (y1.length ≤ 20))).bind fun _ => (RC.parts 48 (l.getD 4 El.none_)).bind fun v => (Cert.must (decide (v.length = 2))).bind fun _ =>
        (Cert.moment (v.getD 0 El.none_)).bind fun a => (Cert.moment (v.getD 1 El.none_)).bind fun b => (RC.key (l.getD 6 El.none_)).bind fun k => (Cert.must (!Stamp.less b a)).bind fun _ =>
          (if n = 8 then RC.extensions C.fl (l.getD 7 El.none_) else some C.fl).bind fun g => some ⟨r, x3, x5, y1, a, b, k.1, k.2, g⟩ := by
    rw [HS.out, must_t (by rw [HX.out.1]; rfl), HX.out.2.1, HX.out.2.2.1, HX.out.2.2.2.1, H1.out.2.2.2.2.2]
    rfl
  have HS2 := Lib.hid hsp2
  clear hsp2 HS HNO hall
  go_wp2_with fail
  refine (rnumber_any t1 B1 D1 m1 d1 k1 e1 y1 x1 _ HX.out.2.2.2.2.1.rd hm1).mono ?_
  rintro e w2 ⟨q2, A3, n3, c3, yn, rfl, hb2, hO2, hl2, ho2⟩
  have hS2 := (H1.out.1.more HX.out.2.2.2.2.1).more HX.out.2.2.2.2.2.1 |>.more HX.out.2.2.2.2.2.2 |>.below hb2
  have hln := ownB_len hO2
  have hX2 := H1.out.2.1.below hb2 (by have := H1.out.2.1.lt; omega)
  have q11 : w2.cell? ⟨g, 4, none⟩ = some (.slice B1 m1 d1) := (hb2.cell (p := ⟨g, 4, none⟩) hg).trans p11
  have q32 : w2.cell? ⟨g, 11, none⟩ = some (.slice D3 k3 e3) := (hb2.cell (p := ⟨g, 11, none⟩) hg).trans p32
  have q52 : w2.cell? ⟨g, 17, none⟩ = some (.slice D5 k5 e5) := (hb2.cell (p := ⟨g, 17, none⟩) hg).trans p52
  have qx : w2.cell? ⟨w.heap.size + 1, 2, none⟩ = some (.slice A2 n2 c2) := hX2.cell 2
  have hm1l : y1.length = m1 := HX.out.2.2.2.2.1.rd.len
  have H2 := Lib.hid (And.intro hS2 (And.intro ho2 (And.intro hln hm1l)))
  clear hS2 ho2 hb2 hO2 hl2 hln hX2 p00 p01 p02 p20 p21 p22 hst0 hst2 p10 p30 p31 p50 p51 p12 p11 p32 p52 hm1l
  cases q2 with
  | false =>
    go_wp2_with (first | ((with_reducible refine at_load_cert ?_); refine wpList_load_cert rfl _ rfl (w.heap.size) (C) rfl (H2.out.1.p.1) ?_) | ((with_reducible refine at_store_cert ?_); refine wpList_store_cert rfl _ _ rfl (w.heap.size + 1 + 1) CV.zero (C) rfl rfl (H2.out.1.p.2.1) (hC) ?_; intro wz hBz hgz) | fail)
    refine S5.ret hC H2.out.1 hgz hBz ?_ rfl rfl
    rw [HS2.out, H2.out.2.1]; rfl
  | true =>
  have hsp3 : RC.signed C.fl (t, b, r) = (Cert.must (decide (0 < yn.length) && decide (y1.length ≤ 20))).bind fun _ => (RC.parts 48 (l.getD 4 El.none_)).bind fun v => (Cert.must (decide (v.length = 2))).bind fun _ =>
        (Cert.moment (v.getD 0 El.none_)).bind fun a => (Cert.moment (v.getD 1 El.none_)).bind fun b => (RC.key (l.getD 6 El.none_)).bind fun k => (Cert.must (!Stamp.less b a)).bind fun _ =>
          (if n = 8 then RC.extensions C.fl (l.getD 7 El.none_) else some C.fl).bind fun g => some ⟨r, x3, x5, y1, a, b, k.1, k.2, g⟩ := by
    rw [HS2.out, H2.out.2.1]; rfl
  have HS3 := Lib.hid hsp3
  clear hsp3 HS2
  by_cases hz : n3 = 0
  case pos =>
    subst hz
    have hno : RC.signed C.fl (t, b, r) = none := by rw [HS3.out, must_f (by rw [H2.out.2.2.1]; rfl)]; rfl
    have HN := Lib.hid hno
    clear hno
    go_wp2_with (first | ((with_reducible refine at_load_cert ?_); refine wpList_load_cert rfl _ rfl (w.heap.size) (C) rfl (H2.out.1.p.1) ?_) | ((with_reducible refine at_store_cert ?_); refine wpList_store_cert rfl _ _ rfl (w.heap.size + 1 + 1) CV.zero (C) rfl rfl (H2.out.1.p.2.1) (hC) ?_; intro wz hBz hgz) | fail)
    exact S5.ret hC H2.out.1 hgz hBz HN.out rfl rfl
  have hz' : ((n3 : Int) == 0) = false := by simp; omega
  by_cases h20 : 20 < m1
  case pos =>
    have h20' : (20 : Int) < m1 := by omega
    have hno : RC.signed C.fl (t, b, r) = none := by rw [HS3.out, must_f (by rw [H2.out.2.2.2, decide_eq_false (p := m1 ≤ 20) (by omega), Bool.and_false])]; rfl
    have HN := Lib.hid hno
    clear hno
    go_wp2_with (first | ((with_reducible refine at_load_cert ?_); refine wpList_load_cert rfl _ rfl (w.heap.size) (C) rfl (H2.out.1.p.1) ?_) | ((with_reducible refine at_store_cert ?_); refine wpList_store_cert rfl _ _ rfl (w.heap.size + 1 + 1) CV.zero (C) rfl rfl (H2.out.1.p.2.1) (hC) ?_; intro wz hBz hgz) | fail)
    exact S5.ret hC H2.out.1 hgz hBz HN.out rfl rfl
  have h20' : ¬ (20 : Int) < m1 := by omega
  have hsp4 : RC.signed C.fl (t, b, r) = (RC.parts 48 (l.getD 4 El.none_)).bind fun v => (Cert.must (decide (v.length = 2))).bind fun _ =>
        (Cert.moment (v.getD 0 El.none_)).bind fun a => (Cert.moment (v.getD 1 El.none_)).bind fun b => (RC.key (l.getD 6 El.none_)).bind fun k => (Cert.must (!Stamp.less b a)).bind fun _ =>
          (if n = 8 then RC.extensions C.fl (l.getD 7 El.none_) else some C.fl).bind fun g => some ⟨r, x3, x5, y1, a, b, k.1, k.2, g⟩ := by
    rw [HS3.out, must_t (by rw [H2.out.2.2.1, H2.out.2.2.2]; simp; omega)]; rfl
  have HS4 := Lib.hid hsp4
  clear hsp4 HS3 hz h20
  have hB := H2.out.1.p.1
  have c1 : w2.cell? ⟨w.heap.size, 1, none⟩ = some C.tbs := hB.at_ 1
  have c2' : w2.cell? ⟨w.heap.size, 2, none⟩ = some C.iss := hB.at_ 2
  have c3' : w2.cell? ⟨w.heap.size, 3, none⟩ = some C.sub := hB.at_ 3
  have c4' : w2.cell? ⟨w.heap.size, 4, none⟩ = some C.ser := hB.at_ 4
  have f1 := hB.frozen 1
  have f2 := hB.frozen 2
  have f3 := hB.frozen 3
  have f4 := hB.frozen 4
  have hgn : ¬ g = w.heap.size := by omega
  have hgn' : ¬ w.heap.size = g := by omega
  have hB3 := (((hB.tbs (.slice A2 n2 c2)).ser (.slice B1 m1 d1)).iss (.slice D3 k3 e3)).sub (.slice D5 k5 e5)
  have hS3 := H2.out.1.grown ((((grown_put w2 ⟨w.heap.size, 1, none⟩ (.slice A2 n2 c2)).trans (grown_put _ ⟨w.heap.size, 4, none⟩ (.slice B1 m1 d1))).trans (grown_put _ ⟨w.heap.size, 2, none⟩ (.slice D3 k3 e3))).trans (grown_put _ ⟨w.heap.size, 3, none⟩ (.slice D5 k5 e5))) hB3
  obtain ⟨t4, B4, m4, d4, y4, D4, k4, e4, x4, hx4, p40, p41, p42, R40, R41⟩ := hS3.el H1.out.2.2.2.2.1 4 12 (by omega) rfl
  have hl4 := len_mem H1.out.2.2.1 hx4
  have hm4 : m4 ≤ 1099511627 := by have := R40.rd.len; omega
  obtain ⟨w3, hw3⟩ : ∃ w3, ((((w2.setCell ⟨w.heap.size, 1, none⟩ (.slice A2 n2 c2)).setCell ⟨w.heap.size, 4, none⟩ (.slice B1 m1 d1)).setCell ⟨w.heap.size, 2, none⟩ (.slice D3 k3 e3)).setCell ⟨w.heap.size, 3, none⟩ (.slice D5 k5 e5)) = w3 := ⟨_, rfl⟩
  rw [hw3] at hS3 p40 p41 p42 R40 R41
  have hs3 : w1.heap.size ≤ w3.heap.size := hS3.top
  have H3 := Lib.hid (And.intro hS3 (And.intro hx4 R40))
  have HW3 := Lib.hid hw3
  clear hB hB3 hS3 hx4 R40 R41 hl4 hw3
  go_upto_region 11 with fail
  rw [HW3.out]
  clear c1 c2' c3' c4' f1 f2 f3 f4 q11 q32 q52 qx HW3
  obtain ⟨D, hD⟩ : ∃ D : CV, D = {C with tbs := .slice A2 n2 c2, ser := .slice B1 m1 d1, iss := .slice D3 k3 e3, sub := .slice D5 k5 e5} := ⟨_, rfl⟩
  have hS3 : S5 w w3 D w1.heap.size (some ⟨g, 0, none⟩) n c L [(.slice D5 k5 e5, x5), (.slice D3 k3 e3, x3), (.slice B1 m1 d1, y1), (.slice A2 n2 c2, r)] := by rw [hD]; exact H3.out.1
  have hDone : ∀ v ∈ D.cells.toList, v.oneCell' = true := by
    obtain ⟨o1, o2, o3⟩ := CV.parts_one hC
    rw [hD]
    exact CV.one o1 rfl rfl rfl rfl o2 o3
  have HD := Lib.hid hD
  have H4 := Lib.hid (And.intro hS3 H3.out.2)
  clear hD hS3 H3
  go_wp2_with fail
  refine (rparts_any t4 B4 D4 m4 d4 k4 e4 48 y4 x4 _ H4.out.2.2.rd hm4).mono ?_
  rintro e w4 ⟨q4, A6, n6, c6, M, rfl, hb4, hE4, hnl4, hmm4, ho4⟩
  have hS4 := H4.out.1.below hb4
  obtain ⟨lv, hlv⟩ : ∃ lv, lv = M.map EI.dat := ⟨_, rfl⟩
  rw [← hlv] at hmm4 ho4
  have hlvl : lv.length = n6 := by rw [hlv, List.length_map]; exact hnl4.symm
  have hs4 := hb4.size
  have H5 := Lib.hid (And.intro hS4 (And.intro hE4 (And.intro hmm4 (And.intro ho4 (And.intro hlv hlvl)))))
  clear hS4 hE4 hmm4 ho4 hlv hlvl hnl4 hb4 p40 p41 p42
  cases q4 with
  | false =>
    go_wp2_with (first | ((with_reducible refine at_load_cert ?_); refine wpList_load_cert rfl _ rfl (w.heap.size) (D) rfl (H5.out.1.p.1) ?_) | ((with_reducible refine at_store_cert ?_); refine wpList_store_cert rfl _ _ rfl (w.heap.size + 1 + 1) CV.zero (D) rfl rfl (H5.out.1.p.2.1) (hDone) ?_; intro wz hBz hgz) | fail)
    refine S5.ret hDone H5.out.1 hgz hBz ?_ rfl rfl
    rw [HS4.out, H4.out.2.1, H5.out.2.2.2.1]; rfl
  | true =>
  have hsp5 : RC.signed C.fl (t, b, r) = (Cert.must (decide (n6 = 2))).bind fun _ =>
        (Cert.moment (lv.getD 0 El.none_)).bind fun a => (Cert.moment (lv.getD 1 El.none_)).bind fun b => (RC.key (l.getD 6 El.none_)).bind fun k => (Cert.must (!Stamp.less b a)).bind fun _ =>
          (if n = 8 then RC.extensions C.fl (l.getD 7 El.none_) else some C.fl).bind fun g => some ⟨r, x3, x5, y1, a, b, k.1, k.2, g⟩ := by
    rw [HS4.out, H4.out.2.1, H5.out.2.2.2.1]
    simp only [if_true, Option.bind_some, H5.out.2.2.2.2.2]
  have HS5 := Lib.hid hsp5
  clear hsp5 HS4
  by_cases h62 : n6 = 2
  case neg =>
    have h62' : ((n6 : Int) != 2) = true := by simp; omega
    have hno : RC.signed C.fl (t, b, r) = none := by rw [HS5.out, must_f (by simp [h62])]; rfl
    have HN := Lib.hid hno
    clear hno h62
    go_wp2_with (first | ((with_reducible refine at_load_cert ?_); refine wpList_load_cert rfl _ rfl (w.heap.size) (D) rfl (H5.out.1.p.1) ?_) | ((with_reducible refine at_store_cert ?_); refine wpList_store_cert rfl _ _ rfl (w.heap.size + 1 + 1) CV.zero (D) rfl rfl (H5.out.1.p.2.1) (hDone) ?_; intro wz hBz hgz) | fail)
    exact S5.ret hDone H5.out.1 hgz hBz HN.out rfl rfl
  subst h62
  obtain ⟨g4, rfl, hg4, hg42⟩ := H5.out.2.1.spot_ (by omega)
  obtain ⟨ta, Ba, ma, da, ya, Da, ka, ea, xa, hxa, pa0, pa1, pa2, Ra0, Ra1, _⟩ := H5.out.2.1.el H5.out.2.2.2.2.1 (Below.refl w4.heap.size w4) (Nat.le_refl _) 0 0 (by omega) rfl
  obtain ⟨tb, Bb, mb, db, yb, Db, kb, eb, xb, hxb, pb0, pb1, pb2, Rb0, Rb1, _⟩ := H5.out.2.1.el H5.out.2.2.2.2.1 (Below.refl w4.heap.size w4) (Nat.le_refl _) 1 3 (by omega) rfl
  have HAB := Lib.hid (And.intro hxa (And.intro hxb (And.intro Ra0 Rb0)))
  clear hxa hxb Ra0 Ra1 Rb0 Rb1
  go_wp2_with fail
  refine (rmom_any ta Ba ma da _ ya xa _ HAB.out.2.2.1).mono ?_
  rintro e w5 ⟨q5, ⟨fy, fmo, fd, fh, fmi, fs⟩, rfl, hb5, ho5⟩
  dsimp only [Tm.v]
  have hS5 := (H5.out.1.below hb5).below ((Below.refl _ _).alloc (Nat.le_refl _) (.cells #[.int .u16 (fy : Int), .int .u8 (fmo : Int), .int .u8 (fd : Int), .int .u8 (fh : Int), .int .u8 (fmi : Int), .int .u8 (fs : Int)] 27))
  have hT5 := Blk.new w5 27 #[.int .u16 (fy : Int), .int .u8 (fmo : Int), .int .u8 (fd : Int), .int .u8 (fh : Int), .int .u8 (fmi : Int), .int .u8 (fs : Int)]
  have hb45 : Below w4.heap.size w4 (w5.alloc (.cells #[.int .u16 (fy : Int), .int .u8 (fmo : Int), .int .u8 (fd : Int), .int .u8 (fh : Int), .int .u8 (fmi : Int), .int .u8 (fs : Int)] 27)) := hb5.alloc hb5.size _
  obtain ⟨w6, hw6⟩ : ∃ w6, w5.alloc (.cells #[.int .u16 (fy : Int), .int .u8 (fmo : Int), .int .u8 (fd : Int), .int .u8 (fh : Int), .int .u8 (fmi : Int), .int .u8 (fs : Int)] 27) = w6 := ⟨_, rfl⟩
  obtain ⟨gf, hgf⟩ : ∃ gf, w5.heap.size = gf := ⟨_, rfl⟩
  have hs5 := hb5.size
  rw [hw6] at hS5 hT5 hb45
  rw [hgf] at hT5 hs5
  have u0 : w6.cell? ⟨g4, 3, none⟩ = some (.int .u8 (tb.toNat : Int)) := (hb45.cell (p := ⟨g4, 3, none⟩) hg4).trans pb0
  have u1 : w6.cell? ⟨g4, 4, none⟩ = some (.slice Bb mb db) := (hb45.cell (p := ⟨g4, 4, none⟩) hg4).trans pb1
  have u2 : w6.cell? ⟨g4, 5, none⟩ = some (.slice Db kb eb) := (hb45.cell (p := ⟨g4, 5, none⟩) hg4).trans pb2
  have H6 := Lib.hid (And.intro hS5 (And.intro hT5 (And.intro ho5 (HAB.out.2.2.2.up hb45))))
  have HW6 := Lib.hid (And.intro hw6 hgf)
  have hs6 := hb45.size
  clear hS5 hT5 ho5 hb5 hb45 hw6 hgf pa0 pa1 pa2 pb0 pb1 pb2
  go_upto_region 15 with fail
  rw [HW6.out.1, HW6.out.2]
  clear HW6
  go_wp2_with fail
  refine (rmom_any tb Bb mb db _ yb xb _ H6.out.2.2.2).mono ?_
  rintro e w7 ⟨q7, ⟨vy, vmo, vd, vh, vmi, vs⟩, rfl, hb7, ho7⟩
  dsimp only [Tm.v]
  have hb67 : Below w6.heap.size w6 (w7.alloc (.cells #[.int .u16 (vy : Int), .int .u8 (vmo : Int), .int .u8 (vd : Int), .int .u8 (vh : Int), .int .u8 (vmi : Int), .int .u8 (vs : Int)] 27)) := hb7.alloc hb7.size _
  have hS7 := H6.out.1.below hb67
  have hT7 := H6.out.2.1.below hb67 H6.out.2.1.lt
  have hV7 := Blk.new w7 27 #[.int .u16 (vy : Int), .int .u8 (vmo : Int), .int .u8 (vd : Int), .int .u8 (vh : Int), .int .u8 (vmi : Int), .int .u8 (vs : Int)]
  obtain ⟨w8, hw8⟩ : ∃ w8, w7.alloc (.cells #[.int .u16 (vy : Int), .int .u8 (vmo : Int), .int .u8 (vd : Int), .int .u8 (vh : Int), .int .u8 (vmi : Int), .int .u8 (vs : Int)] 27) = w8 := ⟨_, rfl⟩
  obtain ⟨gv, hgv⟩ : ∃ gv, w7.heap.size = gv := ⟨_, rfl⟩
  have hs7 := hb7.size
  rw [hw8] at hS7 hT7 hV7 hb67
  rw [hgv] at hV7 hs7
  obtain ⟨t6, B6, m6, d6, y6, D6, k6, e6, x6, hx6, p60, p61, p62, R60, R61⟩ := hS7.el H1.out.2.2.2.2.1 6 18 (by omega) rfl
  have hl6 := len_mem H1.out.2.2.1 hx6
  have hm6 : m6 ≤ 1099511627 := by have := R60.rd.len; omega
  have H8 := Lib.hid (And.intro hS7 (And.intro hT7 (And.intro hV7 (And.intro ho7 (And.intro hx6 R60)))))
  have HW8 := Lib.hid (And.intro hw8 hgv)
  have hs8 := hb67.size
  clear hS7 hT7 hV7 ho7 hb7 hb67 hw8 hgv u0 u1 u2 hx6 R60 R61 hl6
  go_upto_region 16 with fail
  rw [HW8.out.1, HW8.out.2]
  clear HW8
  go_wp2_with fail
  refine (rkey_any t6 B6 D6 m6 d6 k6 e6 y6 x6 _ H8.out.2.2.2.2.2.rd hm6).mono ?_
  rintro e w9 ⟨q9, A9, n9, c9, yk, vk, rfl, hb9, hR9, ho9⟩
  have hb89 : Below w8.heap.size w8 (w9.alloc (.cells #[.slice A9 n9 c9, .int .u64 (vk : Int)] 30)) := hb9.alloc hb9.size _
  have hS9 := (H8.out.1.below hb89).more (hR9.alloc _)
  have hT9 := H8.out.2.1.below hb89 H8.out.2.1.lt
  have hV9 := H8.out.2.2.1.below hb89 H8.out.2.2.1.lt
  have hK9 := Blk.new w9 30 #[.slice A9 n9 c9, .int .u64 (vk : Int)]
  obtain ⟨w10, hw10⟩ : ∃ w10, w9.alloc (.cells #[.slice A9 n9 c9, .int .u64 (vk : Int)] 30) = w10 := ⟨_, rfl⟩
  obtain ⟨gk, hgk⟩ : ∃ gk, w9.heap.size = gk := ⟨_, rfl⟩
  have hs9 := hb9.size
  rw [hw10] at hS9 hT9 hV9 hK9 hb89
  rw [hgk] at hK9 hs9
  have H9 := Lib.hid (And.intro hS9 (And.intro hT9 (And.intro hV9 (And.intro hK9 ho9))))
  have HW10 := Lib.hid (And.intro hw10 hgk)
  have hs10 := hb89.size
  clear hS9 hT9 hV9 hK9 ho9 hb9 hb89 hw10 hgk p60 p61 p62 hR9
  go_upto_region 17 with fail
  rw [HW10.out.1, HW10.out.2]
  clear HW10
  have hsp6 : RC.signed C.fl (t, b, r) = (if q5 = true then some (⟨fy, fmo, fd, fh, fmi, fs⟩ : Tm) else none).bind fun a => (if q7 = true then some (⟨vy, vmo, vd, vh, vmi, vs⟩ : Tm) else none).bind fun b => (if q9 = true then some (yk, vk) else none).bind fun k => (Cert.must (!Stamp.less b a)).bind fun _ =>
          (if n = 8 then RC.extensions C.fl (l.getD 7 El.none_) else some C.fl).bind fun g => some ⟨r, x3, x5, y1, a, b, k.1, k.2, g⟩ := by
    rw [HS5.out, must_t (by decide), HAB.out.1, HAB.out.2.1, H8.out.2.2.2.2.1, H6.out.2.2.1, H8.out.2.2.2.1, H9.out.2.2.2.2]
    rfl
  have HS6 := Lib.hid hsp6
  clear hsp6 HS5
  have hbad : (q5 && (q7 && q9)) = false → RC.signed C.fl (t, b, r) = none := by
    intro h
    rw [HS6.out]
    cases q5 with
    | false => rfl
    | true =>
      cases q7 with
      | false => rfl
      | true =>
        cases q9 with
        | false => rfl
        | true => cases h
  have HBAD := Lib.hid hbad
  clear hbad
  have hst : ∀ W : World, Below w10.heap.size w10 W → S5 w W D w1.heap.size (some ⟨g, 0, none⟩) n c L [(.slice A9 n9 c9, yk), (.slice D5 k5 e5, x5), (.slice D3 k3 e3, x3), (.slice B1 m1 d1, y1), (.slice A2 n2 c2, r)] := fun W hW => H9.out.1.below hW
  have HST := Lib.hid hst
  clear hst
  by_cases hq : (q5 && (q7 && q9)) = true
  case neg =>
    have HN := Lib.hid (HBAD.out (by simpa only [Bool.not_eq_true] using hq))
    have hcases : q5 = false ∨ (q5 = true ∧ q7 = false) ∨ (q5 = true ∧ q7 = true ∧ q9 = false) := by
      cases q5 <;> cases q7 <;> cases q9 <;> simp_all
    clear hq
    rcases hcases with rfl | ⟨rfl, rfl⟩ | ⟨rfl, rfl, rfl⟩
    · go_wp2_with (first | ((with_reducible refine at_load_cert ?_); refine wpList_load_cert rfl _ rfl (w.heap.size) (D) rfl (H9.out.1.p.1) ?_) | ((with_reducible refine at_store_cert ?_); refine wpList_store_cert rfl _ _ rfl (w.heap.size + 1 + 1) CV.zero (D) rfl rfl (H9.out.1.p.2.1) (hDone) ?_; intro wz hBz hgz) | fail)
      exact S5.ret hDone H9.out.1 hgz hBz HN.out rfl rfl
    · go_wp2_with (first | ((with_reducible refine at_load_cert ?_); refine wpList_load_cert rfl _ rfl (w.heap.size) (D) rfl (H9.out.1.p.1) ?_) | ((with_reducible refine at_store_cert ?_); refine wpList_store_cert rfl _ _ rfl (w.heap.size + 1 + 1) CV.zero (D) rfl rfl (H9.out.1.p.2.1) (hDone) ?_; intro wz hBz hgz) | fail)
      exact S5.ret hDone H9.out.1 hgz hBz HN.out rfl rfl
    · go_wp2_with (first | ((with_reducible refine at_load_cert ?_); refine wpList_load_cert rfl _ rfl (w.heap.size) (D) rfl (H9.out.1.p.1) ?_) | ((with_reducible refine at_store_cert ?_); refine wpList_store_cert rfl _ _ rfl (w.heap.size + 1 + 1) CV.zero (D) rfl rfl (H9.out.1.p.2.1) (hDone) ?_; intro wz hBz hgz) | fail)
      exact S5.ret hDone H9.out.1 hgz hBz HN.out rfl rfl
  obtain ⟨rfl, rfl, rfl⟩ : q5 = true ∧ q7 = true ∧ q9 = true := by simpa using hq
  clear hq
  have hfF : (⟨fy, fmo, fd, fh, fmi, fs⟩ : Tm).fits := right_fits (moment_right (x := (ta, ya, xa)) (by rw [H6.out.2.2.1]; rfl))
  have hfV : (⟨vy, vmo, vd, vh, vmi, vs⟩ : Tm).fits := right_fits (moment_right (x := (tb, yb, xb)) (by rw [H8.out.2.2.2.1]; rfl))
  have HFF := Lib.hid (And.intro hfF hfV)
  clear hfF hfV HBAD
  have a0 : w10.cell? ⟨gf, 0, none⟩ = some (.int .u16 (fy : Int)) := H9.out.2.1.cell 0
  have a1 : w10.cell? ⟨gf, 1, none⟩ = some (.int .u8 (fmo : Int)) := H9.out.2.1.cell 1
  have a2 : w10.cell? ⟨gf, 2, none⟩ = some (.int .u8 (fd : Int)) := H9.out.2.1.cell 2
  have a3 : w10.cell? ⟨gf, 3, none⟩ = some (.int .u8 (fh : Int)) := H9.out.2.1.cell 3
  have a4 : w10.cell? ⟨gf, 4, none⟩ = some (.int .u8 (fmi : Int)) := H9.out.2.1.cell 4
  have a5 : w10.cell? ⟨gf, 5, none⟩ = some (.int .u8 (fs : Int)) := H9.out.2.1.cell 5
  have b0' : w10.cell? ⟨gv, 0, none⟩ = some (.int .u16 (vy : Int)) := H9.out.2.2.1.cell 0
  have b1' : w10.cell? ⟨gv, 1, none⟩ = some (.int .u8 (vmo : Int)) := H9.out.2.2.1.cell 1
  have b2' : w10.cell? ⟨gv, 2, none⟩ = some (.int .u8 (vd : Int)) := H9.out.2.2.1.cell 2
  have b3' : w10.cell? ⟨gv, 3, none⟩ = some (.int .u8 (vh : Int)) := H9.out.2.2.1.cell 3
  have b4' : w10.cell? ⟨gv, 4, none⟩ = some (.int .u8 (vmi : Int)) := H9.out.2.2.1.cell 4
  have b5' : w10.cell? ⟨gv, 5, none⟩ = some (.int .u8 (vs : Int)) := H9.out.2.2.1.cell 5
  go_wp2_with fail
  refine (rless_any ⟨vy, vmo, vd, vh, vmi, vs⟩ ⟨fy, fmo, fd, fh, fmi, fs⟩ HFF.out.2 HFF.out.1 _).mono ?_
  rintro e w11 ⟨rfl, hb11⟩
  obtain ⟨z, hz⟩ : ∃ z, Stamp.less ⟨vy, vmo, vd, vh, vmi, vs⟩ ⟨fy, fmo, fd, fh, fmi, fs⟩ = z := ⟨_, rfl⟩
  rw [hz]
  have hsp7 : RC.signed C.fl (t, b, r) = (Cert.must (!z)).bind fun _ => (if n = 8 then RC.extensions C.fl (l.getD 7 El.none_) else some C.fl).bind fun g => some ⟨r, x3, x5, y1, ⟨fy, fmo, fd, fh, fmi, fs⟩, ⟨vy, vmo, vd, vh, vmi, vs⟩, yk, vk, g⟩ := by
    rw [HS6.out, ← hz]; rfl
  have HS7 := Lib.hid hsp7
  have hS11 := HST.out _ hb11
  have hT11 := H9.out.2.1.below hb11 H9.out.2.1.lt
  have hV11 := H9.out.2.2.1.below hb11 H9.out.2.2.1.lt
  have hK11 := H9.out.2.2.2.1.below hb11 H9.out.2.2.2.1.lt
  have H11 := Lib.hid (And.intro hS11 (And.intro hT11 (And.intro hV11 hK11)))
  clear hsp7 HS6 hz hS11 hT11 hV11 hK11 hb11 a0 a1 a2 a3 a4 a5 b0' b1' b2' b3' b4' b5'
  cases z with
  | true =>
    go_wp2_with (first | ((with_reducible refine at_load_cert ?_); refine wpList_load_cert rfl _ rfl (w.heap.size) (D) rfl (H11.out.1.p.1) ?_) | ((with_reducible refine at_store_cert ?_); refine wpList_store_cert rfl _ _ rfl (w.heap.size + 1 + 1) CV.zero (D) rfl rfl (H11.out.1.p.2.1) (hDone) ?_; intro wz hBz hgz) | fail)
    refine S5.ret hDone H11.out.1 hgz hBz ?_ rfl rfl
    rw [HS7.out]; rfl
  | false =>
  have hsp8 : RC.signed C.fl (t, b, r) = (if n = 8 then RC.extensions C.fl (l.getD 7 El.none_) else some C.fl).bind fun g => some ⟨r, x3, x5, y1, ⟨fy, fmo, fd, fh, fmi, fs⟩, ⟨vy, vmo, vd, vh, vmi, vs⟩, yk, vk, g⟩ := by
    rw [HS7.out]; rfl
  have HS8 := Lib.hid hsp8
  clear hsp8 HS7
  have a0 : w11.cell? ⟨gf, 0, none⟩ = some (.int .u16 (fy : Int)) := H11.out.2.1.cell 0
  have a1 : w11.cell? ⟨gf, 1, none⟩ = some (.int .u8 (fmo : Int)) := H11.out.2.1.cell 1
  have a2 : w11.cell? ⟨gf, 2, none⟩ = some (.int .u8 (fd : Int)) := H11.out.2.1.cell 2
  have a3 : w11.cell? ⟨gf, 3, none⟩ = some (.int .u8 (fh : Int)) := H11.out.2.1.cell 3
  have a4 : w11.cell? ⟨gf, 4, none⟩ = some (.int .u8 (fmi : Int)) := H11.out.2.1.cell 4
  have a5 : w11.cell? ⟨gf, 5, none⟩ = some (.int .u8 (fs : Int)) := H11.out.2.1.cell 5
  have b0' : w11.cell? ⟨gv, 0, none⟩ = some (.int .u16 (vy : Int)) := H11.out.2.2.1.cell 0
  have b1' : w11.cell? ⟨gv, 1, none⟩ = some (.int .u8 (vmo : Int)) := H11.out.2.2.1.cell 1
  have b2' : w11.cell? ⟨gv, 2, none⟩ = some (.int .u8 (vd : Int)) := H11.out.2.2.1.cell 2
  have b3' : w11.cell? ⟨gv, 3, none⟩ = some (.int .u8 (vh : Int)) := H11.out.2.2.1.cell 3
  have b4' : w11.cell? ⟨gv, 4, none⟩ = some (.int .u8 (vmi : Int)) := H11.out.2.2.1.cell 4
  have b5' : w11.cell? ⟨gv, 5, none⟩ = some (.int .u8 (vs : Int)) := H11.out.2.2.1.cell 5
  have kk0 : w11.cell? ⟨gk, 0, none⟩ = some (.slice A9 n9 c9) := H11.out.2.2.2.cell 0
  have kk1 : w11.cell? ⟨gk, 1, none⟩ = some (.int .u64 (vk : Int)) := H11.out.2.2.2.cell 1
  have hB := H11.out.1.p.1
  have ce5 : w11.cell? ⟨w.heap.size, 5, none⟩ = some (.int .u16 (D.from_.y : Int)) := hB.at_ 5
  have ce6 : w11.cell? ⟨w.heap.size, 6, none⟩ = some (.int .u8 (D.from_.mo : Int)) := hB.at_ 6
  have ce7 : w11.cell? ⟨w.heap.size, 7, none⟩ = some (.int .u8 (D.from_.d : Int)) := hB.at_ 7
  have ce8 : w11.cell? ⟨w.heap.size, 8, none⟩ = some (.int .u8 (D.from_.h : Int)) := hB.at_ 8
  have ce9 : w11.cell? ⟨w.heap.size, 9, none⟩ = some (.int .u8 (D.from_.mi : Int)) := hB.at_ 9
  have ce10 : w11.cell? ⟨w.heap.size, 10, none⟩ = some (.int .u8 (D.from_.s : Int)) := hB.at_ 10
  have ce11 : w11.cell? ⟨w.heap.size, 11, none⟩ = some (.int .u16 (D.to.y : Int)) := hB.at_ 11
  have ce12 : w11.cell? ⟨w.heap.size, 12, none⟩ = some (.int .u8 (D.to.mo : Int)) := hB.at_ 12
  have ce13 : w11.cell? ⟨w.heap.size, 13, none⟩ = some (.int .u8 (D.to.d : Int)) := hB.at_ 13
  have ce14 : w11.cell? ⟨w.heap.size, 14, none⟩ = some (.int .u8 (D.to.h : Int)) := hB.at_ 14
  have ce15 : w11.cell? ⟨w.heap.size, 15, none⟩ = some (.int .u8 (D.to.mi : Int)) := hB.at_ 15
  have ce16 : w11.cell? ⟨w.heap.size, 16, none⟩ = some (.int .u8 (D.to.s : Int)) := hB.at_ 16
  have ce17 : w11.cell? ⟨w.heap.size, 17, none⟩ = some D.n := hB.at_ 17
  have ce18 : w11.cell? ⟨w.heap.size, 18, none⟩ = some (.int .u64 (D.e : Int)) := hB.at_ 18
  have cf := hB.frozen
  have hwl : w.heap.size + 1 + 1 + 1 ≤ w4.heap.size := by omega
  have hgf1 : ¬ gf = w.heap.size := by omega
  have hgf2 : ¬ w.heap.size = gf := by omega
  have hgv1 : ¬ gv = w.heap.size := by omega
  have hgv2 : ¬ w.heap.size = gv := by omega
  have hgk1 : ¬ gk = w.heap.size := by omega
  have hgk2 : ¬ w.heap.size = gk := by omega
  have hB12 := (((hB.time5 ⟨fy, fmo, fd, fh, fmi, fs⟩).time11 ⟨vy, vmo, vd, vh, vmi, vs⟩).n_ (.slice A9 n9 c9)).e_ vk
  have hS12 := H11.out.1.grown ((((((((((((((grown_put w11 ⟨w.heap.size, 5, none⟩ (.int .u16 (fy : Int))).trans (grown_put _ ⟨w.heap.size, 6, none⟩ (.int .u8 (fmo : Int)))).trans (grown_put _ ⟨w.heap.size, 7, none⟩ (.int .u8 (fd : Int)))).trans (grown_put _ ⟨w.heap.size, 8, none⟩ (.int .u8 (fh : Int)))).trans (grown_put _ ⟨w.heap.size, 9, none⟩ (.int .u8 (fmi : Int)))).trans (grown_put _ ⟨w.heap.size, 10, none⟩ (.int .u8 (fs : Int)))).trans (grown_put _ ⟨w.heap.size, 11, none⟩ (.int .u16 (vy : Int)))).trans (grown_put _ ⟨w.heap.size, 12, none⟩ (.int .u8 (vmo : Int)))).trans (grown_put _ ⟨w.heap.size, 13, none⟩ (.int .u8 (vd : Int)))).trans (grown_put _ ⟨w.heap.size, 14, none⟩ (.int .u8 (vh : Int)))).trans (grown_put _ ⟨w.heap.size, 15, none⟩ (.int .u8 (vmi : Int)))).trans (grown_put _ ⟨w.heap.size, 16, none⟩ (.int .u8 (vs : Int)))).trans (grown_put _ ⟨w.heap.size, 17, none⟩ (.slice A9 n9 c9))).trans (grown_put _ ⟨w.heap.size, 18, none⟩ (.int .u64 (vk : Int)))) hB12
  obtain ⟨w12, hw12, hS12⟩ : ∃ w12, ((((((((((((((w11.setCell ⟨w.heap.size, 5, none⟩ (.int .u16 (fy : Int))).setCell ⟨w.heap.size, 6, none⟩ (.int .u8 (fmo : Int))).setCell ⟨w.heap.size, 7, none⟩ (.int .u8 (fd : Int))).setCell ⟨w.heap.size, 8, none⟩ (.int .u8 (fh : Int))).setCell ⟨w.heap.size, 9, none⟩ (.int .u8 (fmi : Int))).setCell ⟨w.heap.size, 10, none⟩ (.int .u8 (fs : Int))).setCell ⟨w.heap.size, 11, none⟩ (.int .u16 (vy : Int))).setCell ⟨w.heap.size, 12, none⟩ (.int .u8 (vmo : Int))).setCell ⟨w.heap.size, 13, none⟩ (.int .u8 (vd : Int))).setCell ⟨w.heap.size, 14, none⟩ (.int .u8 (vh : Int))).setCell ⟨w.heap.size, 15, none⟩ (.int .u8 (vmi : Int))).setCell ⟨w.heap.size, 16, none⟩ (.int .u8 (vs : Int))).setCell ⟨w.heap.size, 17, none⟩ (.slice A9 n9 c9)).setCell ⟨w.heap.size, 18, none⟩ (.int .u64 (vk : Int))) = w12 ∧ S5 w w12 {D with from_ := ⟨fy, fmo, fd, fh, fmi, fs⟩, to := ⟨vy, vmo, vd, vh, vmi, vs⟩, n := .slice A9 n9 c9, e := vk} w1.heap.size (some ⟨g, 0, none⟩) n c L [(.slice A9 n9 c9, yk), (.slice D5 k5 e5, x5), (.slice D3 k3 e3, x3), (.slice B1 m1 d1, y1), (.slice A2 n2 c2, r)] := ⟨_, rfl, hS12⟩
  have HW12 := Lib.hid hw12
  have HS12 := Lib.hid hS12
  clear hw12 hB12 hB hS12
  go_upto_region 22 with fail
  rw [HW12.out]
  clear HW12 a0 a1 a2 a3 a4 a5 b0' b1' b2' b3' b4' b5' kk0 kk1 ce5 ce6 ce7 ce8 ce9 ce10 ce11 ce12 ce13 ce14 ce15 ce16 ce17 ce18 cf
  obtain ⟨D2, hD2⟩ : ∃ D2 : CV, D2 = {D with from_ := ⟨fy, fmo, fd, fh, fmi, fs⟩, to := ⟨vy, vmo, vd, vh, vmi, vs⟩, n := .slice A9 n9 c9, e := vk} := ⟨_, rfl⟩
  have hS12 : S5 w w12 D2 w1.heap.size (some ⟨g, 0, none⟩) n c L [(.slice A9 n9 c9, yk), (.slice D5 k5 e5, x5), (.slice D3 k3 e3, x3), (.slice B1 m1 d1, y1), (.slice A2 n2 c2, r)] := by rw [hD2]; exact HS12.out
  have hone12 : ∀ v ∈ D2.cells.toList, v.oneCell' = true := by
    rw [hD2, HD.out]
    obtain ⟨o1, o2, o3⟩ := CV.parts_one hC
    exact CV.one o1 rfl rfl rfl rfl rfl o3
  have hD2fl : D2.fl = C.fl := by rw [hD2, HD.out]
  have hD2s : D2.raw = C.raw ∧ D2.sig = C.sig ∧ D2.tbs = .slice A2 n2 c2 ∧ D2.iss = .slice D3 k3 e3 ∧ D2.sub = .slice D5 k5 e5 ∧ D2.ser = .slice B1 m1 d1 ∧ D2.n = .slice A9 n9 c9 ∧ D2.from_ = ⟨fy, fmo, fd, fh, fmi, fs⟩ ∧ D2.to = ⟨vy, vmo, vd, vh, vmi, vs⟩ ∧ D2.e = vk := by
    rw [hD2, HD.out]
    exact ⟨rfl, rfl, rfl, rfl, rfl, rfl, rfl, rfl, rfl, rfl⟩
  clear hD2 HS12
  have HS12 := Lib.hid hS12
  have HD2 := Lib.hid hD2s
  clear hS12 hD2s
  have hend : ∀ (wz : World) (f : Fl) (tmps : Array Value), RL wz [(.slice A9 n9 c9, yk), (.slice D5 k5 e5, x5), (.slice D3 k3 e3, x3), (.slice B1 m1 d1, y1), (.slice A2 n2 c2, r)] → Below w.heap.size w wz → Bc wz (w.heap.size + 1 + 1) {D2 with fl := f} →
      RC.signed C.fl (t, b, r) = some ⟨r, x3, x5, y1, ⟨fy, fmo, fd, fh, fmi, fs⟩, ⟨vy, vmo, vd, vh, vmi, vs⟩, yk, vk, f⟩ → tmps.getD 4 undef = .pointer (some ⟨w.heap.size + 1 + 1, 0, none⟩) → tmps.getD 5 undef = .bool true →
      bodyPost Try.prog Try.f50 (SgQ w C (RC.signed C.fl (t, b, r))) .ret { tmps := tmps, defers := [] } wz := by
    intro wz f tmps hrl hbw hBz hs h4 h5
    refine bodyPost_ret (results_cell_tmp Try.results50 _ _ _ _ _ h4 (load_cert hBz)) rfl ?_
    rw [h5, hs]
    obtain ⟨s1, s2, s3, s4, s5, s6, s7, s8, s9, s10⟩ := HD2.out
    refine ⟨true, {D2 with fl := f}, rfl, hbw, CV.fl_one hone12 f, (fun h => by cases h), fun _ => ⟨_, rfl, s1, s2, s8, s9, s10, rfl, ?_, ?_, ?_, ?_, ?_⟩⟩
    · dsimp only; rw [s3]; exact hrl (.slice A2 n2 c2, r) (by simp)
    · dsimp only; rw [s4]; exact hrl (.slice D3 k3 e3, x3) (by simp)
    · dsimp only; rw [s5]; exact hrl (.slice D5 k5 e5, x5) (by simp)
    · dsimp only; rw [s6]; exact hrl (.slice B1 m1 d1, y1) (by simp)
    · dsimp only; rw [s7]; exact hrl (.slice A9 n9 c9, yk) (by simp)
  have HEND := Lib.hid hend
  clear hend
  by_cases hn8 : n = 8
  case neg =>
    have hn8' : ((n : Int) == 8) = false := by simp; omega
    have hsp9 := HS8.out
    rw [if_neg hn8] at hsp9
    have HS9 := Lib.hid hsp9
    clear hsp9 hn8
    have hB' : Bc w12 w.heap.size {D2 with fl := C.fl} := by rw [← hD2fl]; exact HS12.out.p.1
    go_wp2_with (first | ((with_reducible refine at_load_cert ?_); refine wpList_load_cert rfl _ rfl (w.heap.size) ({D2 with fl := C.fl}) rfl (hB') ?_) | ((with_reducible refine at_store_cert ?_); refine wpList_store_cert rfl _ _ rfl (w.heap.size + 1 + 1) CV.zero ({D2 with fl := C.fl}) rfl rfl (HS12.out.p.2.1) (CV.fl_one hone12 _) ?_; intro wz hBz hgz) | fail)
    refine HEND.out wz C.fl _ (HS12.out.rl.far hgz HS12.out.p.2.1) (below_grow HS12.out.p.2.2.1 hgz (by omega) (by have := HS12.out.p.2.2.2; omega)) hBz ?_ rfl rfl
    rw [HS9.out]; rfl
  have hn8' : ((n : Int) == 8) = true := by simp; omega
  subst hn8
  obtain ⟨t7, B7, m7, d7, y7, D7, k7, e7, x7, hx7, p70, p71, p72, R70, _⟩ := HS12.out.el H1.out.2.2.2.2.1 7 21 (by omega) rfl
  have hl7 := len_mem H1.out.2.2.1 hx7
  have hm7 : m7 ≤ 1099511627 := by have := R70.rd.len; omega
  obtain ⟨oo, hoo⟩ : ∃ oo, RC.extensions C.fl (t7, y7, x7) = oo := ⟨_, rfl⟩
  have hsp9 : RC.signed C.fl (t, b, r) = oo.bind fun g => some ⟨r, x3, x5, y1, ⟨fy, fmo, fd, fh, fmi, fs⟩, ⟨vy, vmo, vd, vh, vmi, vs⟩, yk, vk, g⟩ := by
    rw [HS8.out, if_pos rfl, hx7, hoo]
  have hg12 : g < w12.heap.size := Nat.lt_of_lt_of_le hg HS12.out.top
  have hcall : ∀ W : World, Rd W W.heap.size B7 m7 d7 y7 → Calls Try.prog 79 #[CV.val D2, .agg #[.int .u8 (t7.toNat : Int), .slice B7 m7 d7, .slice D7 k7 e7]] W (FlQ W D2 oo) := fun W hW => by
    have := rextensions_any D2 hone12 t7 B7 D7 m7 d7 k7 e7 y7 x7 W hW hm7
    rwa [hD2fl, hoo] at this
  have HX7 := Lib.hid (And.intro hsp9 (And.intro hcall R70))
  clear hsp9 hcall R70 hx7 hl7 HS8 hoo
  have hP12 := HS12.out.p
  have hne2 : w.heap.size ≠ w.heap.size + 1 + 1 := by omega
  have hneg : g ≠ w.heap.size + 1 + 1 := by omega
  go_upto_region 23 with fail
  refine wp_region_two 7 5 (JW [(fun v => v = CV.val D2), (fun v => v = .slice (some ⟨g, 0, none⟩) 8 c), (fun v => v = .pointer (some ⟨g, 7 * 3, none⟩)), (fun v => v = .agg #[.int .u8 (t7.toNat : Int), .slice B7 m7 d7, .slice D7 k7 e7]), (JF D2 oo 0), (JF D2 oo 1), (JF D2 oo 2), (fun _ => True), (JF D2 oo 2)]) (fun _ W => JG (w.heap.size + 1 + 1) D2 oo W) (fun W => w12.grownBy W (some (w.heap.size + 1 + 1)) ∧ ∃ C', Bc W (w.heap.size + 1 + 1) C') RN (fun W W' => W.grownBy W' (some (w.heap.size + 1 + 1)) ∧ ∃ C', Bc W' (w.heap.size + 1 + 1) C') ?hm ?hmono ?hmonoS ?hJ2 ?hGR ?hGS ?hd ?hg ?hA ?hW ?hG0 ?hs ?hdone
  case hm => rfl
  case hmono => exact fun _ _ _ _ _ h => h
  case hmonoS => exact fun _ _ _ _ _ h => h
  case hJ2 =>
    rintro v W W' hr ⟨f, hB, hf⟩
    exact ⟨f, hB.below hr hB.lt, hf⟩
  case hGR =>
    rintro W W' ⟨h1, C', hB⟩ hr
    exact ⟨grown_below h1 (Below.mono hr h1.size), C', hB.below hr hB.lt⟩
  case hGS =>
    rintro W W' ⟨h1, _⟩ ⟨h2, h3⟩
    exact ⟨h1.trans h2, h3⟩
  case hd => show dstsOk _ 174 = true; decide +kernel
  case hg => decide +kernel
  case hA => decide +kernel
  case hW => decide +kernel
  case hG0 => exact ⟨grown_drew _ _, CV.zero, Blk.drew hP12.2.1⟩
  case hs =>
    refine ⟨two_else (by decide) ?_, two_else (by decide) ?_, two_else (by decide) ?_, two_else (by decide) ?_, two_else (by decide) ?_, two_else (by decide) ?_, two_else (by decide) ?_, two_then ?_, two_else (by decide) ?_, trivial⟩
    · intro a W hfr hG hdep; exact N_load rfl (by simp) (hfr 2 (by decide +kernel)) (load_cert (Blk.grown hP12.1 hG.1 (fun e => hne2 (by injection e)))) rfl
    · intro a W hfr hG hdep; exact N_move rfl (by simp) (hfr 6 (by decide +kernel))
    · intro a W hfr hG hdep; exact N_idx (k := 7) rfl (by simp) (hdep 1 (by decide +kernel)) rfl (by omega) rfl
    · intro a W hfr hG hdep
      have hk : ∀ i v, w12.cell? ⟨g, i, none⟩ = some v → W.cell? ⟨g, i, none⟩ = some v := fun i v h => (World.cell?_of_block (a := ⟨g, i, none⟩) (hG.1.block g hg12 (fun e => hneg (by injection e)))).trans h
      exact N_load rfl (by simp) (hdep 2 (by decide +kernel)) (load_elem (hk _ _ p70) (hk _ _ p71) (hk _ _ p72)) rfl
    · intro a W hfr hG hdep
      have e1 : a.eval (.tmp 166) = CV.val D2 := hdep 0 (by decide +kernel)
      have e2 : a.eval (.tmp 169) = .agg #[.int .u8 (t7.toNat : Int), .slice B7 m7 d7, .slice D7 k7 e7] := hdep 3 (by decide +kernel)
      refine N_call rfl (by simp) Try.func79 rfl (by decide) (args := #[CV.val D2, .agg #[.int .u8 (t7.toNat : Int), .slice B7 m7 d7, .slice D7 k7 e7]]) ?_ (HX7.out.2.1 W (HX7.out.2.2.far hG.1 hP12.2.1).rd) (fun e w'' h => h.jf)
      exact map_two e1 e2
    · intro a W hfr hG hdep; exact N_jf1 rfl (by simp) (hdep 4 (by decide +kernel))
    · intro a W hfr hG hdep; exact N_jf2 rfl (by simp) (hdep 4 (by decide +kernel))
    · intro a W hfr hG hdep
      obtain ⟨C', hB'⟩ := hG.2
      obtain ⟨f, e2, hf⟩ : JF D2 oo 1 (a.eval (.tmp 171)) := hdep 5 (by decide +kernel)
      refine wp_store_cert _ _ rfl _ C' {D2 with fl := f} (hfr 4 (by decide +kernel)) e2 hB' (CV.fl_one hone12 f) ?_
      intro w' hD' hg'
      exact ⟨undef, rfl, fun _ => rfl, trivial, ⟨hg', _, hD'⟩, f, hD', hf⟩
    · intro a W hfr hG hdep; exact N_assign rfl (by simp) (hdep 6 (by decide +kernel))
  case hdone =>
    intro a W hdf hsz hfr hG hJ hV
    obtain ⟨f, hBv, hPv⟩ := hV
    have e := arr_eta a 174 hsz hdf
    rw [show (List.range 174).map (fun i => a.eval (.tmp i)) = a.eval (.tmp 0) :: a.eval (.tmp 1) :: a.eval (.tmp 2) :: a.eval (.tmp 3) :: a.eval (.tmp 4) :: a.eval (.tmp 5) :: a.eval (.tmp 6) :: a.eval (.tmp 7) :: a.eval (.tmp 8) :: a.eval (.tmp 9) :: a.eval (.tmp 10) :: a.eval (.tmp 11) :: a.eval (.tmp 12) :: a.eval (.tmp 13) :: a.eval (.tmp 14) :: a.eval (.tmp 15) :: a.eval (.tmp 16) :: a.eval (.tmp 17) :: a.eval (.tmp 18) :: a.eval (.tmp 19) :: a.eval (.tmp 20) :: a.eval (.tmp 21) :: a.eval (.tmp 22) :: a.eval (.tmp 23) :: a.eval (.tmp 24) :: a.eval (.tmp 25) :: a.eval (.tmp 26) :: a.eval (.tmp 27) :: a.eval (.tmp 28) :: a.eval (.tmp 29) :: a.eval (.tmp 30) :: a.eval (.tmp 31) :: a.eval (.tmp 32) :: a.eval (.tmp 33) :: a.eval (.tmp 34) :: a.eval (.tmp 35) :: a.eval (.tmp 36) :: a.eval (.tmp 37) :: a.eval (.tmp 38) :: a.eval (.tmp 39) :: a.eval (.tmp 40) :: a.eval (.tmp 41) :: a.eval (.tmp 42) :: a.eval (.tmp 43) :: a.eval (.tmp 44) :: a.eval (.tmp 45) :: a.eval (.tmp 46) :: a.eval (.tmp 47) :: a.eval (.tmp 48) :: a.eval (.tmp 49) :: a.eval (.tmp 50) :: a.eval (.tmp 51) :: a.eval (.tmp 52) :: a.eval (.tmp 53) :: a.eval (.tmp 54) :: a.eval (.tmp 55) :: a.eval (.tmp 56) :: a.eval (.tmp 57) :: a.eval (.tmp 58) :: a.eval (.tmp 59) :: a.eval (.tmp 60) :: a.eval (.tmp 61) :: a.eval (.tmp 62) :: a.eval (.tmp 63) :: a.eval (.tmp 64) :: a.eval (.tmp 65) :: a.eval (.tmp 66) :: a.eval (.tmp 67) :: a.eval (.tmp 68) :: a.eval (.tmp 69) :: a.eval (.tmp 70) :: a.eval (.tmp 71) :: a.eval (.tmp 72) :: a.eval (.tmp 73) :: a.eval (.tmp 74) :: a.eval (.tmp 75) :: a.eval (.tmp 76) :: a.eval (.tmp 77) :: a.eval (.tmp 78) :: a.eval (.tmp 79) :: a.eval (.tmp 80) :: a.eval (.tmp 81) :: a.eval (.tmp 82) :: a.eval (.tmp 83) :: a.eval (.tmp 84) :: a.eval (.tmp 85) :: a.eval (.tmp 86) :: a.eval (.tmp 87) :: a.eval (.tmp 88) :: a.eval (.tmp 89) :: a.eval (.tmp 90) :: a.eval (.tmp 91) :: a.eval (.tmp 92) :: a.eval (.tmp 93) :: a.eval (.tmp 94) :: a.eval (.tmp 95) :: a.eval (.tmp 96) :: a.eval (.tmp 97) :: a.eval (.tmp 98) :: a.eval (.tmp 99) :: a.eval (.tmp 100) :: a.eval (.tmp 101) :: a.eval (.tmp 102) :: a.eval (.tmp 103) :: a.eval (.tmp 104) :: a.eval (.tmp 105) :: a.eval (.tmp 106) :: a.eval (.tmp 107) :: a.eval (.tmp 108) :: a.eval (.tmp 109) :: a.eval (.tmp 110) :: a.eval (.tmp 111) :: a.eval (.tmp 112) :: a.eval (.tmp 113) :: a.eval (.tmp 114) :: a.eval (.tmp 115) :: a.eval (.tmp 116) :: a.eval (.tmp 117) :: a.eval (.tmp 118) :: a.eval (.tmp 119) :: a.eval (.tmp 120) :: a.eval (.tmp 121) :: a.eval (.tmp 122) :: a.eval (.tmp 123) :: a.eval (.tmp 124) :: a.eval (.tmp 125) :: a.eval (.tmp 126) :: a.eval (.tmp 127) :: a.eval (.tmp 128) :: a.eval (.tmp 129) :: a.eval (.tmp 130) :: a.eval (.tmp 131) :: a.eval (.tmp 132) :: a.eval (.tmp 133) :: a.eval (.tmp 134) :: a.eval (.tmp 135) :: a.eval (.tmp 136) :: a.eval (.tmp 137) :: a.eval (.tmp 138) :: a.eval (.tmp 139) :: a.eval (.tmp 140) :: a.eval (.tmp 141) :: a.eval (.tmp 142) :: a.eval (.tmp 143) :: a.eval (.tmp 144) :: a.eval (.tmp 145) :: a.eval (.tmp 146) :: a.eval (.tmp 147) :: a.eval (.tmp 148) :: a.eval (.tmp 149) :: a.eval (.tmp 150) :: a.eval (.tmp 151) :: a.eval (.tmp 152) :: a.eval (.tmp 153) :: a.eval (.tmp 154) :: a.eval (.tmp 155) :: a.eval (.tmp 156) :: a.eval (.tmp 157) :: a.eval (.tmp 158) :: a.eval (.tmp 159) :: a.eval (.tmp 160) :: a.eval (.tmp 161) :: a.eval (.tmp 162) :: a.eval (.tmp 163) :: a.eval (.tmp 164) :: a.eval (.tmp 165) :: a.eval (.tmp 166) :: a.eval (.tmp 167) :: a.eval (.tmp 168) :: a.eval (.tmp 169) :: a.eval (.tmp 170) :: a.eval (.tmp 171) :: a.eval (.tmp 172) :: a.eval (.tmp 173) :: [] from rfl] at e
    rw [show a.eval (.tmp 5) = .bool oo.isSome from hJ 8 (by decide)] at e
    rw [show a.eval (.tmp 4) = .pointer (some ⟨w.heap.size + 1 + 1, 0, none⟩) from hfr 4 (by decide +kernel)] at e
    generalize a.eval (.tmp 0) = u0 at e
    generalize a.eval (.tmp 1) = u1 at e
    generalize a.eval (.tmp 2) = u2 at e
    generalize a.eval (.tmp 3) = u3 at e
    generalize a.eval (.tmp 6) = u6 at e
    generalize a.eval (.tmp 7) = u7 at e
    generalize a.eval (.tmp 8) = u8 at e
    generalize a.eval (.tmp 9) = u9 at e
    generalize a.eval (.tmp 10) = u10 at e
    generalize a.eval (.tmp 11) = u11 at e
    generalize a.eval (.tmp 12) = u12 at e
    generalize a.eval (.tmp 13) = u13 at e
    generalize a.eval (.tmp 14) = u14 at e
    generalize a.eval (.tmp 15) = u15 at e
    generalize a.eval (.tmp 16) = u16 at e
    generalize a.eval (.tmp 17) = u17 at e
    generalize a.eval (.tmp 18) = u18 at e
    generalize a.eval (.tmp 19) = u19 at e
    generalize a.eval (.tmp 20) = u20 at e
    generalize a.eval (.tmp 21) = u21 at e
    generalize a.eval (.tmp 22) = u22 at e
    generalize a.eval (.tmp 23) = u23 at e
    generalize a.eval (.tmp 24) = u24 at e
    generalize a.eval (.tmp 25) = u25 at e
    generalize a.eval (.tmp 26) = u26 at e
    generalize a.eval (.tmp 27) = u27 at e
    generalize a.eval (.tmp 28) = u28 at e
    generalize a.eval (.tmp 29) = u29 at e
    generalize a.eval (.tmp 30) = u30 at e
    generalize a.eval (.tmp 31) = u31 at e
    generalize a.eval (.tmp 32) = u32 at e
    generalize a.eval (.tmp 33) = u33 at e
    generalize a.eval (.tmp 34) = u34 at e
    generalize a.eval (.tmp 35) = u35 at e
    generalize a.eval (.tmp 36) = u36 at e
    generalize a.eval (.tmp 37) = u37 at e
    generalize a.eval (.tmp 38) = u38 at e
    generalize a.eval (.tmp 39) = u39 at e
    generalize a.eval (.tmp 40) = u40 at e
    generalize a.eval (.tmp 41) = u41 at e
    generalize a.eval (.tmp 42) = u42 at e
    generalize a.eval (.tmp 43) = u43 at e
    generalize a.eval (.tmp 44) = u44 at e
    generalize a.eval (.tmp 45) = u45 at e
    generalize a.eval (.tmp 46) = u46 at e
    generalize a.eval (.tmp 47) = u47 at e
    generalize a.eval (.tmp 48) = u48 at e
    generalize a.eval (.tmp 49) = u49 at e
    generalize a.eval (.tmp 50) = u50 at e
    generalize a.eval (.tmp 51) = u51 at e
    generalize a.eval (.tmp 52) = u52 at e
    generalize a.eval (.tmp 53) = u53 at e
    generalize a.eval (.tmp 54) = u54 at e
    generalize a.eval (.tmp 55) = u55 at e
    generalize a.eval (.tmp 56) = u56 at e
    generalize a.eval (.tmp 57) = u57 at e
    generalize a.eval (.tmp 58) = u58 at e
    generalize a.eval (.tmp 59) = u59 at e
    generalize a.eval (.tmp 60) = u60 at e
    generalize a.eval (.tmp 61) = u61 at e
    generalize a.eval (.tmp 62) = u62 at e
    generalize a.eval (.tmp 63) = u63 at e
    generalize a.eval (.tmp 64) = u64 at e
    generalize a.eval (.tmp 65) = u65 at e
    generalize a.eval (.tmp 66) = u66 at e
    generalize a.eval (.tmp 67) = u67 at e
    generalize a.eval (.tmp 68) = u68 at e
    generalize a.eval (.tmp 69) = u69 at e
    generalize a.eval (.tmp 70) = u70 at e
    generalize a.eval (.tmp 71) = u71 at e
    generalize a.eval (.tmp 72) = u72 at e
    generalize a.eval (.tmp 73) = u73 at e
    generalize a.eval (.tmp 74) = u74 at e
    generalize a.eval (.tmp 75) = u75 at e
    generalize a.eval (.tmp 76) = u76 at e
    generalize a.eval (.tmp 77) = u77 at e
    generalize a.eval (.tmp 78) = u78 at e
    generalize a.eval (.tmp 79) = u79 at e
    generalize a.eval (.tmp 80) = u80 at e
    generalize a.eval (.tmp 81) = u81 at e
    generalize a.eval (.tmp 82) = u82 at e
    generalize a.eval (.tmp 83) = u83 at e
    generalize a.eval (.tmp 84) = u84 at e
    generalize a.eval (.tmp 85) = u85 at e
    generalize a.eval (.tmp 86) = u86 at e
    generalize a.eval (.tmp 87) = u87 at e
    generalize a.eval (.tmp 88) = u88 at e
    generalize a.eval (.tmp 89) = u89 at e
    generalize a.eval (.tmp 90) = u90 at e
    generalize a.eval (.tmp 91) = u91 at e
    generalize a.eval (.tmp 92) = u92 at e
    generalize a.eval (.tmp 93) = u93 at e
    generalize a.eval (.tmp 94) = u94 at e
    generalize a.eval (.tmp 95) = u95 at e
    generalize a.eval (.tmp 96) = u96 at e
    generalize a.eval (.tmp 97) = u97 at e
    generalize a.eval (.tmp 98) = u98 at e
    generalize a.eval (.tmp 99) = u99 at e
    generalize a.eval (.tmp 100) = u100 at e
    generalize a.eval (.tmp 101) = u101 at e
    generalize a.eval (.tmp 102) = u102 at e
    generalize a.eval (.tmp 103) = u103 at e
    generalize a.eval (.tmp 104) = u104 at e
    generalize a.eval (.tmp 105) = u105 at e
    generalize a.eval (.tmp 106) = u106 at e
    generalize a.eval (.tmp 107) = u107 at e
    generalize a.eval (.tmp 108) = u108 at e
    generalize a.eval (.tmp 109) = u109 at e
    generalize a.eval (.tmp 110) = u110 at e
    generalize a.eval (.tmp 111) = u111 at e
    generalize a.eval (.tmp 112) = u112 at e
    generalize a.eval (.tmp 113) = u113 at e
    generalize a.eval (.tmp 114) = u114 at e
    generalize a.eval (.tmp 115) = u115 at e
    generalize a.eval (.tmp 116) = u116 at e
    generalize a.eval (.tmp 117) = u117 at e
    generalize a.eval (.tmp 118) = u118 at e
    generalize a.eval (.tmp 119) = u119 at e
    generalize a.eval (.tmp 120) = u120 at e
    generalize a.eval (.tmp 121) = u121 at e
    generalize a.eval (.tmp 122) = u122 at e
    generalize a.eval (.tmp 123) = u123 at e
    generalize a.eval (.tmp 124) = u124 at e
    generalize a.eval (.tmp 125) = u125 at e
    generalize a.eval (.tmp 126) = u126 at e
    generalize a.eval (.tmp 127) = u127 at e
    generalize a.eval (.tmp 128) = u128 at e
    generalize a.eval (.tmp 129) = u129 at e
    generalize a.eval (.tmp 130) = u130 at e
    generalize a.eval (.tmp 131) = u131 at e
    generalize a.eval (.tmp 132) = u132 at e
    generalize a.eval (.tmp 133) = u133 at e
    generalize a.eval (.tmp 134) = u134 at e
    generalize a.eval (.tmp 135) = u135 at e
    generalize a.eval (.tmp 136) = u136 at e
    generalize a.eval (.tmp 137) = u137 at e
    generalize a.eval (.tmp 138) = u138 at e
    generalize a.eval (.tmp 139) = u139 at e
    generalize a.eval (.tmp 140) = u140 at e
    generalize a.eval (.tmp 141) = u141 at e
    generalize a.eval (.tmp 142) = u142 at e
    generalize a.eval (.tmp 143) = u143 at e
    generalize a.eval (.tmp 144) = u144 at e
    generalize a.eval (.tmp 145) = u145 at e
    generalize a.eval (.tmp 146) = u146 at e
    generalize a.eval (.tmp 147) = u147 at e
    generalize a.eval (.tmp 148) = u148 at e
    generalize a.eval (.tmp 149) = u149 at e
    generalize a.eval (.tmp 150) = u150 at e
    generalize a.eval (.tmp 151) = u151 at e
    generalize a.eval (.tmp 152) = u152 at e
    generalize a.eval (.tmp 153) = u153 at e
    generalize a.eval (.tmp 154) = u154 at e
    generalize a.eval (.tmp 155) = u155 at e
    generalize a.eval (.tmp 156) = u156 at e
    generalize a.eval (.tmp 157) = u157 at e
    generalize a.eval (.tmp 158) = u158 at e
    generalize a.eval (.tmp 159) = u159 at e
    generalize a.eval (.tmp 160) = u160 at e
    generalize a.eval (.tmp 161) = u161 at e
    generalize a.eval (.tmp 162) = u162 at e
    generalize a.eval (.tmp 163) = u163 at e
    generalize a.eval (.tmp 164) = u164 at e
    generalize a.eval (.tmp 165) = u165 at e
    generalize a.eval (.tmp 166) = u166 at e
    generalize a.eval (.tmp 167) = u167 at e
    generalize a.eval (.tmp 168) = u168 at e
    generalize a.eval (.tmp 169) = u169 at e
    generalize a.eval (.tmp 170) = u170 at e
    generalize a.eval (.tmp 171) = u171 at e
    generalize a.eval (.tmp 172) = u172 at e
    generalize a.eval (.tmp 173) = u173 at e
    subst e
    clear hfr hJ hsz hdf
    have hrl := HS12.out.rl.far hG.1 hP12.2.1
    have hbw := below_grow hP12.2.2.1 hG.1 (by omega) (by have := hP12.2.2.2; omega)
    cases oo with
    | none =>
      go_wp2
      refine bodyPost_ret (results_cell_tmp Try.results50 _ _ _ _ _ rfl (load_cert hBv)) rfl ?_
      exact ⟨false, _, rfl, hbw, CV.fl_one hone12 f, fun _ => HX7.out.1, fun h => by cases h⟩
    | some fl =>
      obtain rfl : fl = f := hPv fl rfl
      have HB := Lib.hid (And.intro hBv (And.intro hrl hbw))
      clear hBv hPv hrl hbw hG
      go_wp2
      exact HEND.out W fl _ HB.out.2.1 HB.out.2.2 HB.out.1 HX7.out.1 rfl rfl
end Go.Proofs.Ytmnekhliblkibaa
