/- Joined of: Moment Cert5 Cert6 Cert7. -/
import Derived.Test.YtmnekhliblkibaaGE
import Derived.Test.YtmnekhliblkibaaGG
import Derived.BigRegion
section
/- The contract of cert.moment. (Printed by genmoment.py.) -/
namespace Go.Proofs.Ytmnekhliblkibaa
open Go.RowKit
set_option maxRecDepth 100000
set_option linter.unusedVariables false
set_option linter.unusedSimpArgs false

def Cert.moment (x : El) : Option Tm := if (x.1.toNat : Int) = 23 then Stamp.told 2 Stamp.year2 x.2.1 else if (x.1.toNat : Int) = 24 then Stamp.told 4 id x.2.1 else none

set_option maxHeartbeats 1000000 in
theorem moment_any (t : UInt8) (A1 : Option Addr) (n1 c1 : Nat) (vr : Value) (b r : List UInt8) (w : World) (h1 : Rd w w.heap.size A1 n1 c1 b) :
    Calls Try.prog 67 #[.agg #[.int .u8 (t.toNat : Int), .slice A1 n1 c1, vr]] w (Ans w (Cert.moment (t, b, r)) fun a v _ => v = a.v) := by
  have hb0 := Blk.new (w.alloc (.cells #[.int .u8 (t.toNat : Int), .slice A1 n1 c1, vr] 50)) 27 #[.int .u16 0, .int .u8 0, .int .u8 0, .int .u8 0, .int .u8 0, .int .u8 0]
  rw [World.size_alloc] at hb0
  by_cases h23 : (t.toNat : Int) = 23
  · have e23 : Cert.moment (t, b, r) = Stamp.told 2 Stamp.year2 b := by unfold Cert.moment; rw [if_pos h23]
    have b23 : ((t.toNat : Int) == 23) = true := by simp [h23]
    clear h23
    go_enter Try.func67, Try.ntmps67
    go_wp2_with fail
    obtain ⟨o, ho⟩ : ∃ o, Stamp.told 2 Stamp.year2 b = o := ⟨_, rfl⟩
    refine (utc_any A1 n1 c1 b _ (((h1.alloc (Nat.le_refl _) _).alloc (by simp) _).more (by simp; omega))).mono ?_
    rw [ho]
    rintro e w1 ⟨hb1, ⟨rfl, rfl⟩ | ⟨⟨y, mo, d, hh, mi, s⟩, rfl, rfl⟩⟩
    · have hbw : Below w.heap.size w w1 := Below.trans (by (repeat (first | exact Below.refl _ _ | assumption | (refine Below.setCell ?_ (by first | omega | (simp; done) | (simp; omega)) _) | (refine Below.alloc ?_ (by first | omega | (simp; done) | (simp; omega)) _) | (refine below_drewN ?_ _) | (refine Below.drew ?_)))) (hb1.mono (by simp; omega))
      have hs1 := hbw.size
      have H1 := Lib.hid (And.intro ho hbw)
      clear ho hbw hb1 hb0 h1
      dsimp only [Tm.v, Tm.zero]
      go_wp2_with fail
      refine (must_false _).mono ?_
      rintro e w' ⟨rfl, rfl⟩
      have HX := Lib.hid (H1.out.2.alloc (by omega) (.cells #[.int .u16 0, .int .u8 0, .int .u8 0, .int .u8 0, .int .u8 0, .int .u8 0] 27))
      go_wp2
      exact ⟨rfl, Ans.wrong (e23.trans H1.out.1) HX.out⟩
    · have hbw : Below w.heap.size w w1 := Below.trans (by (repeat (first | exact Below.refl _ _ | assumption | (refine Below.setCell ?_ (by first | omega | (simp; done) | (simp; omega)) _) | (refine Below.alloc ?_ (by first | omega | (simp; done) | (simp; omega)) _) | (refine below_drewN ?_ _) | (refine Below.drew ?_)))) (hb1.mono (by simp; omega))
      have hs1 := hbw.size
      have e1 := hb0.below hb1 (by simp)
      have H1 := Lib.hid (And.intro ho (And.intro hbw e1))
      have hs2 := hb1.size
      simp only [World.size_alloc] at hs2
      clear ho hbw hb1 hb0 h1 e1
      dsimp only [Tm.v]
      go_wp2_with fail
      refine (must_true _).mono ?_
      rintro e w' ⟨rfl, rfl⟩
      have e3 := Blk.new w1 27 #[.int .u16 (y : Int), .int .u8 (mo : Int), .int .u8 (d : Int), .int .u8 (hh : Int), .int .u8 (mi : Int), .int .u8 (s : Int)]
      have e2 := H1.out.2.2.alloc (.cells #[.int .u16 (y : Int), .int .u8 (mo : Int), .int .u8 (d : Int), .int .u8 (hh : Int), .int .u8 (mi : Int), .int .u8 (s : Int)] 27)
      have hbx := H1.out.2.1.alloc (by omega) (.cells #[.int .u16 (y : Int), .int .u8 (mo : Int), .int .u8 (d : Int), .int .u8 (hh : Int), .int .u8 (mi : Int), .int .u8 (s : Int)] 27)
      obtain ⟨k0, k1⟩ := e3.facts
      obtain ⟨k2, k3⟩ := e2.facts
      have H2 := Lib.hid (And.intro e2 hbx)
      clear e2 e3 hbx
      go_wp2
      have e4 := ((((((H2.out.1.set_ 0 (.int .u16 (y : Int))).set_ 1 (.int .u8 (mo : Int))).set_ 2 (.int .u8 (d : Int))).set_ 3 (.int .u8 (hh : Int))).set_ 4 (.int .u8 (mi : Int))).set_ 5 (.int .u8 (s : Int)))
      have hld := load_time _ _ _ _ _ _ _ _ e4
      refine bodyPost_ret (results_cell rfl _ _ _ _ _ rfl hld) rfl ?_
      refine Ans.right (e23.trans H1.out.1) ?_ rfl
      have hbx := H2.out.2
      exact ((((((hbx.setCell (by dsimp only; omega) _).setCell (by dsimp only; omega) _).setCell (by dsimp only; omega) _).setCell (by dsimp only; omega) _).setCell (by dsimp only; omega) _).setCell (by dsimp only; omega) _)
  · have b23 : ((t.toNat : Int) == 23) = false := by simp [h23]
    by_cases h24 : (t.toNat : Int) = 24
    · have e24 : Cert.moment (t, b, r) = Stamp.told 4 id b := by unfold Cert.moment; rw [if_neg h23, if_pos h24]
      have b24 : ((t.toNat : Int) == 24) = true := by simp [h24]
      clear h23 h24
      go_enter Try.func67, Try.ntmps67
      go_wp2_with fail
      refine (must_true _).mono ?_
      rintro e w' ⟨rfl, rfl⟩
      go_wp2_with fail
      obtain ⟨o, ho⟩ : ∃ o, Stamp.told 4 id b = o := ⟨_, rfl⟩
      refine (general_any A1 n1 c1 b _ (((h1.alloc (Nat.le_refl _) _).alloc (by simp) _).more (by simp; omega))).mono ?_
      rw [ho]
      rintro e w1 ⟨hb1, ⟨rfl, rfl⟩ | ⟨⟨y, mo, d, hh, mi, s⟩, rfl, rfl⟩⟩
      · have hbw : Below w.heap.size w w1 := Below.trans (by (repeat (first | exact Below.refl _ _ | assumption | (refine Below.setCell ?_ (by first | omega | (simp; done) | (simp; omega)) _) | (refine Below.alloc ?_ (by first | omega | (simp; done) | (simp; omega)) _) | (refine below_drewN ?_ _) | (refine Below.drew ?_)))) (hb1.mono (by simp; omega))
        have hs1 := hbw.size
        have H1 := Lib.hid (And.intro ho hbw)
        clear ho hbw hb1 hb0 h1
        dsimp only [Tm.v, Tm.zero]
        go_wp2_with fail
        refine (must_false _).mono ?_
        rintro e w' ⟨rfl, rfl⟩
        have HX := Lib.hid (H1.out.2.alloc (by omega) (.cells #[.int .u16 0, .int .u8 0, .int .u8 0, .int .u8 0, .int .u8 0, .int .u8 0] 27))
        go_wp2
        exact ⟨rfl, Ans.wrong (e24.trans H1.out.1) HX.out⟩
      · have hbw : Below w.heap.size w w1 := Below.trans (by (repeat (first | exact Below.refl _ _ | assumption | (refine Below.setCell ?_ (by first | omega | (simp; done) | (simp; omega)) _) | (refine Below.alloc ?_ (by first | omega | (simp; done) | (simp; omega)) _) | (refine below_drewN ?_ _) | (refine Below.drew ?_)))) (hb1.mono (by simp; omega))
        have hs1 := hbw.size
        have e1 := hb0.below hb1 (by simp)
        have H1 := Lib.hid (And.intro ho (And.intro hbw e1))
        have hs2 := hb1.size
        simp only [World.size_alloc] at hs2
        clear ho hbw hb1 hb0 h1 e1
        dsimp only [Tm.v]
        go_wp2_with fail
        refine (must_true _).mono ?_
        rintro e w' ⟨rfl, rfl⟩
        have e3 := Blk.new w1 27 #[.int .u16 (y : Int), .int .u8 (mo : Int), .int .u8 (d : Int), .int .u8 (hh : Int), .int .u8 (mi : Int), .int .u8 (s : Int)]
        have e2 := H1.out.2.2.alloc (.cells #[.int .u16 (y : Int), .int .u8 (mo : Int), .int .u8 (d : Int), .int .u8 (hh : Int), .int .u8 (mi : Int), .int .u8 (s : Int)] 27)
        have hbx := H1.out.2.1.alloc (by omega) (.cells #[.int .u16 (y : Int), .int .u8 (mo : Int), .int .u8 (d : Int), .int .u8 (hh : Int), .int .u8 (mi : Int), .int .u8 (s : Int)] 27)
        obtain ⟨k0, k1⟩ := e3.facts
        obtain ⟨k2, k3⟩ := e2.facts
        have H2 := Lib.hid (And.intro e2 hbx)
        clear e2 e3 hbx
        go_wp2
        have e4 := ((((((H2.out.1.set_ 0 (.int .u16 (y : Int))).set_ 1 (.int .u8 (mo : Int))).set_ 2 (.int .u8 (d : Int))).set_ 3 (.int .u8 (hh : Int))).set_ 4 (.int .u8 (mi : Int))).set_ 5 (.int .u8 (s : Int)))
        have hld := load_time _ _ _ _ _ _ _ _ e4
        refine bodyPost_ret (results_cell rfl _ _ _ _ _ rfl hld) rfl ?_
        refine Ans.right (e24.trans H1.out.1) ?_ rfl
        have hbx := H2.out.2
        exact ((((((hbx.setCell (by dsimp only; omega) _).setCell (by dsimp only; omega) _).setCell (by dsimp only; omega) _).setCell (by dsimp only; omega) _).setCell (by dsimp only; omega) _).setCell (by dsimp only; omega) _)
    · have e0 : Cert.moment (t, b, r) = none := by unfold Cert.moment; rw [if_neg h23, if_neg h24]
      have b24 : ((t.toNat : Int) == 24) = false := by simp [h24]
      clear h23 h24
      go_enter Try.func67, Try.ntmps67
      go_wp2_with fail
      refine (must_false _).mono ?_
      rintro e w' ⟨rfl, rfl⟩
      go_wp2
      exact ⟨rfl, Ans.wrong e0 (by (repeat (first | exact Below.refl _ _ | assumption | (refine Below.setCell ?_ (by first | omega | (simp; done) | (simp; omega)) _) | (refine Below.alloc ?_ (by first | omega | (simp; done) | (simp; omega)) _) | (refine below_drewN ?_ _) | (refine Below.drew ?_))))⟩
end Go.Proofs.Ytmnekhliblkibaa
end

section
/- The contracts of cert.constraints, cert.purposes: what they put into a certificate, or the panic that Parse recovers from. -/
namespace Go.Proofs.Ytmnekhliblkibaa
open Go.RowKit
set_option maxRecDepth 100000
set_option linter.unusedVariables false
set_option linter.unusedSimpArgs false

/-- What extensions tell. -/
structure Fl where
  ca : Bool
  path : Int
  usage : Int
  code : Bool
  deriving DecidableEq
/-- A certificate in memory. -/
structure CV where
  raw : Value
  tbs : Value
  iss : Value
  sub : Value
  ser : Value
  from_ : Tm
  to : Tm
  n : Value
  e : Nat
  sig : Value
  fl : Fl
def CV.cells (c : CV) : Array Value := #[c.raw, c.tbs, c.iss, c.sub, c.ser,
  .int .u16 (c.from_.y : Int), .int .u8 (c.from_.mo : Int), .int .u8 (c.from_.d : Int), .int .u8 (c.from_.h : Int), .int .u8 (c.from_.mi : Int), .int .u8 (c.from_.s : Int),
  .int .u16 (c.to.y : Int), .int .u8 (c.to.mo : Int), .int .u8 (c.to.d : Int), .int .u8 (c.to.h : Int), .int .u8 (c.to.mi : Int), .int .u8 (c.to.s : Int),
  c.n, .int .u64 (c.e : Int), c.sig, .bool c.fl.ca, .int .i64 c.fl.path, .int .i64 c.fl.usage, .bool c.fl.code]
/-- A block that holds a certificate. -/
def Bc (w : World) (gc : Nat) (C : CV) : Prop := Blk w gc 32 C.cells

theorem Bc.at_ {w : World} {gc : Nat} {C : CV} (h : Bc w gc C) (i : Nat) : w.cell? ⟨gc, i, none⟩ = C.cells[i]? := Blk.cell h i
theorem Bc.frozen {w : World} {gc : Nat} {C : CV} (h : Bc w gc C) (i : Nat) : w.frozen? ⟨gc, i, none⟩ = false := Blk.frozen h i
theorem Bc.lt {w : World} {gc : Nat} {C : CV} (h : Bc w gc C) : gc < w.heap.size := Blk.lt h
theorem Bc.below {B : Nat} {w w' : World} {gc : Nat} {C : CV} (h : Bc w gc C) (hb : Below B w w') (hg : gc < B) : Bc w' gc C := Blk.below h hb hg
theorem Bc.ca {w : World} {gc : Nat} {C : CV} (h : Bc w gc C) (x : Bool) : Bc (w.setCell ⟨gc, 20, none⟩ (.bool x)) gc {C with fl := {C.fl with ca := x}} := Blk.set_ h 20 (.bool x)
theorem Bc.path {w : World} {gc : Nat} {C : CV} (h : Bc w gc C) (x : Int) : Bc (w.setCell ⟨gc, 21, none⟩ (.int .i64 x)) gc {C with fl := {C.fl with path := x}} := Blk.set_ h 21 (.int .i64 x)
theorem Bc.usage {w : World} {gc : Nat} {C : CV} (h : Bc w gc C) (x : Int) : Bc (w.setCell ⟨gc, 22, none⟩ (.int .i64 x)) gc {C with fl := {C.fl with usage := x}} := Blk.set_ h 22 (.int .i64 x)
theorem Bc.code {w : World} {gc : Nat} {C : CV} (h : Bc w gc C) (x : Bool) : Bc (w.setCell ⟨gc, 23, none⟩ (.bool x)) gc {C with fl := {C.fl with code := x}} := Blk.set_ h 23 (.bool x)

theorem grows_ {w w' : World} (h : Below w.heap.size w w') (row : Option Nat) : w.grownBy w' row := ⟨h.os, h.tape, h.output, h.size, fun k hk _ => h.block k hk⟩
theorem grown_put (w : World) (a : Addr) (u : Value) : w.grownBy (w.setCell a u) (some a.block) := ⟨rfl, rfl, rfl, by simp, fun k _ hk => Below.heap_setCell w a u k (fun e => hk (by rw [e]))⟩
theorem KeepRows.grown {lo gc : Nat} {w w' : World} (hg : w.grownBy w' (some gc)) (h : gc < lo) : KeepRows lo w w' := by
  intro g cs t h1 h2
  exact (hg.block g (Array.getElem?_eq_some_iff.1 h2).1 (fun e => by injection e with e; omega)).trans h2
theorem Rd.grownK {w w' : World} {B n c gc : Nat} {A : Option Addr} {xs : List UInt8} (h : Rd w B A n c xs) (hB : B ≤ gc) (hw : B ≤ w.heap.size) (hg : w.grownBy w' (some gc)) : Rd w' B A n c xs :=
  h.keep fun p hp => World.cell?_of_block (hg.block p.block (by omega) (fun e => by injection e with e; omega))

/-- It was given up, the certificate's block being what it may; or something is told. -/
def AnsC {α : Type} (gc : Nat) (w : World) (o : Option α) (R : α → Value → World → Prop) (e : Ending) (w' : World) : Prop :=
  w.grownBy w' (some gc) ∧ ((o = none ∧ e = .panicked wrongs ∧ ∃ C : CV, Bc w' gc C) ∨ ∃ a v, o = some a ∧ e = .returned v ∧ R a v w')
theorem AnsC.wrong {α : Type} {gc : Nat} {w w' : World} {o : Option α} {R : α → Value → World → Prop} {C : CV} (h : o = none) (hb : w.grownBy w' (some gc)) (hC : Bc w' gc C) : AnsC gc w o R (.panicked wrongs) w' := ⟨hb, .inl ⟨h, rfl, C, hC⟩⟩
theorem AnsC.right {α : Type} {gc : Nat} {w w' : World} {o : Option α} {R : α → Value → World → Prop} {a : α} {v : Value} (h : o = some a) (hb : w.grownBy w' (some gc)) (hR : R a v w') : AnsC gc w o R (.returned v) w' := ⟨hb, .inr ⟨a, v, h, rfl, hR⟩⟩

def Cert.yes (x : El) : Bool := x.2.2 == [1, 1, 255]
def Cert.constraints (f : Fl) (x : El) : Option Fl := (Cert.parts 48 0 2 x).bind fun l =>
  if l.length = 0 then some f else (Cert.must (Cert.yes (l.getD 0 El.none_))).bind fun _ =>
    if l.length = 1 then some {f with ca := true} else (Cert.small 256 (l.getD 1 El.none_)).bind fun v => some {f with ca := true, path := (v : Int)}

/-- The post of what writes flags. -/
def FlR (gc : Nat) (C : CV) (f : Fl) (v : Value) (w' : World) : Prop := v = .tuple #[] ∧ Bc w' gc {C with fl := f}

set_option maxHeartbeats 1000000 in
theorem constraints_any (gc : Nat) (C : CV) (t : UInt8) (A1 A2 : Option Addr) (n1 c1 n2 c2 : Nat) (b r : List UInt8) (w : World) (hC : Bc w gc C) (h1 : Rd w w.heap.size A1 n1 c1 b) (hn : n1 ≤ 1099511627) :
    Calls Try.prog 93 #[.pointer (some ⟨gc, 0, none⟩), .agg #[.int .u8 (t.toNat : Int), .slice A1 n1 c1, .slice A2 n2 c2]] w (AnsC gc w (Cert.constraints C.fl (t, b, r)) (FlR gc C)) := by
  have HLB := Lib.hid h1.len
  have hgl := hC.lt
  go_enter Try.func93, Try.ntmps93
  go_wp2_with fail
  refine (parts_any t A1 A2 n1 c1 n2 c2 48 0 2 b r _ ((h1.alloc (Nat.le_refl _) _).more (by simp)) hn).mono ?_
  rintro e w1 ⟨hb1, ⟨ho, rfl⟩ | ⟨l, v, ho, rfl, L, A, n, c, rfl, hl, hE, hnl⟩⟩
  · have hbw1 : Below w.heap.size w w1 := Below.trans (by (repeat (first | exact Below.refl _ _ | assumption | (refine Below.setCell ?_ (by first | omega | (simp; done) | (simp; omega)) _) | (refine Below.alloc ?_ (by first | omega | (simp; done) | (simp; omega)) _) | (refine below_drewN ?_ _) | (refine Below.drew ?_)))) (hb1.mono (by first | omega | (simp; done) | (simp; omega)))
    have HH := Lib.hid (And.intro ho (And.intro (grows_ hbw1 (some gc)) (hC.below hbw1 hgl)))
    clear ho hb1 h1 hbw1 hC
    go_wp2
    exact ⟨rfl, AnsC.wrong (by simp only [Cert.constraints, HH.out.1, Option.bind_none]) HH.out.2.1 HH.out.2.2⟩
  have hlen := must_len ho
  have hbw1 : Below w.heap.size w w1 := Below.trans (by (repeat (first | exact Below.refl _ _ | assumption | (refine Below.setCell ?_ (by first | omega | (simp; done) | (simp; omega)) _) | (refine Below.alloc ?_ (by first | omega | (simp; done) | (simp; omega)) _) | (refine below_drewN ?_ _) | (refine Below.drew ?_)))) (hb1.mono (by first | omega | (simp; done) | (simp; omega)))
  have hs1 := hb1.size
  simp only [World.size_alloc] at hs1
  have hE := hE.mono (lo' := w.heap.size + 1) (by simp) (Nat.le_refl _)
  have H1 := Lib.hid (And.intro ho (And.intro hbw1 (And.intro hE (And.intro hl (hC.below hbw1 hgl)))))
  have hlen1 : n ≤ 2 := by omega
  have HNL := Lib.hid hnl.symm
  clear ho hb1 hbw1 h1 hE hl hlen hC hnl
  by_cases h0 : n = 0
  · subst h0
    go_wp2
    go_end0
    exact AnsC.right (by simp only [Cert.constraints, H1.out.1, Option.bind_some, HNL.out, if_true]) (grows_ H1.out.2.1 _) ⟨rfl, H1.out.2.2.2.2⟩
  have hpos : 0 < n := by omega
  obtain ⟨g, rfl, hg, hg2⟩ := H1.out.2.2.1.spot_ hpos
  obtain ⟨t0, A3, n3, c3, b0, A4, n4, c4, r0, hx0, p0, p1, p2, R0, R1, _⟩ := H1.out.2.2.1.el H1.out.2.2.2.1 (Below.refl w1.heap.size w1) (Nat.le_refl _) 0 0 hpos rfl
  have H2 := Lib.hid (And.intro hx0 R1)
  clear hx0 R0 R1
  go_wp2_with fail
  refine (yes_any t0 _ A4 n4 c4 r0 _ H2.out.2).mono ?_
  rintro e w2 ⟨rfl, hb2⟩
  obtain ⟨q, hq⟩ : ∃ q, (r0 == [1, 1, 255]) = q := ⟨_, rfl⟩
  rw [hq]
  have H3 := Lib.hid (And.intro hq hb2)
  have hs2 := hb2.size
  clear hq hb2
  go_wp2_with fail
  refine (must_any _ _).mono ?_
  rintro e w' ⟨rfl, ⟨hq, rfl⟩ | ⟨hq, rfl⟩⟩
  · have HQ := Lib.hid hq
    clear hq
    go_wp2
    exact ⟨rfl, AnsC.wrong (by simp only [Cert.constraints, H1.out.1, Option.bind_some]; rw [if_neg (by have := HNL.out; omega), must_f (by simp only [Cert.yes, H2.out.1]; exact H3.out.1.trans HQ.out)]; rfl) (grows_ (H1.out.2.1.trans (H3.out.2.mono (by omega))) _) (H1.out.2.2.2.2.below H3.out.2 (by omega))⟩
  have HQ := Lib.hid hq
  clear hq
  have hB2 := H1.out.2.2.2.2.below H3.out.2 (by omega)
  have k0 : w'.cell? ⟨gc, 20, none⟩ = some (.bool C.fl.ca) := hB2.at_ 20
  have k1 := hB2.frozen 20
  have HB2 := Lib.hid (hB2.ca true)
  have hgw : w.grownBy (w'.setCell ⟨gc, 20, none⟩ (.bool true)) (some gc) := (grows_ (H1.out.2.1.trans (H3.out.2.mono (by omega))) _).trans (grown_put _ _ _)
  have hkr : KeepRows (w.heap.size + 1) w1 (w'.setCell ⟨gc, 20, none⟩ (.bool true)) := (KeepRows.below H3.out.2 (Nat.le_refl _)).trans (KeepRows.setCell (by dsimp only; omega) _)
  have H4 := Lib.hid (And.intro hgw (H1.out.2.2.1.keepRows hkr))
  clear hB2 hgw hkr
  have hspec : Hid (Cert.constraints C.fl (t, b, r) = if l.length = 1 then some {C.fl with ca := true} else (Cert.small 256 (l.getD 1 El.none_)).bind fun v => some {C.fl with ca := true, path := (v : Int)}) :=
    Lib.hid (by simp only [Cert.constraints, H1.out.1, Option.bind_some]; rw [if_neg (by have := HNL.out; omega), must_t (by simp only [Cert.yes, H2.out.1]; exact H3.out.1.trans HQ.out)]; rfl)
  by_cases h2 : n = 1
  · subst h2
    go_wp2
    go_end0
    exact AnsC.right (hspec.out.trans (by rw [if_pos HNL.out])) H4.out.1 ⟨rfl, HB2.out⟩
  obtain rfl : n = 2 := by omega
  obtain ⟨t1, A6, n6, c6, b1, A7, n7, c7, r1, hx1, q0, q1, q2, Q0, Q1, _⟩ := H4.out.2.el H1.out.2.2.2.1 (Below.refl w1.heap.size _) (Nat.le_refl _) 1 3 (by omega) rfl
  have hsm := parts_small H1.out.1 1 hx1
  have hn6 : n6 ≤ 1099511627 := by have := Q0.len; have := HLB.out; simp at hsm; omega
  have H5 := Lib.hid (And.intro hx1 (Q0.more (B' := (w'.setCell ⟨gc, 20, none⟩ (.bool true)).heap.size) (by simp; omega)))
  clear hx1 Q0 Q1 hsm p0 p1 p2
  go_wp2_with fail
  refine (small_any t1 A6 A7 n6 c6 n7 c7 256 b1 r1 _ H5.out.2 (by omega) (by omega) (by omega)).mono ?_
  rintro e w3 ⟨hb3, ⟨ho, rfl⟩ | ⟨z, v, ho, rfl, rfl⟩⟩
  · have HH := Lib.hid (And.intro ho hb3)
    clear ho hb3
    go_wp2
    refine ⟨rfl, AnsC.wrong (hspec.out.trans (by rw [if_neg (by have := HNL.out; omega), H5.out.1, HH.out.1]; rfl)) (H4.out.1.trans (grows_ HH.out.2 _)) (HB2.out.below HH.out.2 (by simp; omega))⟩
  have hz : (z : Int) < 256 := by
    unfold Cert.small at ho
    cases hnu : Cert.number (t1, b1, r1) with
    | none => rw [hnu] at ho; cases ho
    | some ys =>
      rw [hnu] at ho
      simp only [Option.bind_some] at ho
      by_cases hlt : ((Der.be ys : Int) < 256)
      · rw [must_t (by simpa using hlt)] at ho
        injection ho with ho
        omega
      · rw [must_f (by simpa using hlt)] at ho
        cases ho
  have hB3 := HB2.out.below hb3 (by simp; omega)
  have k2 : w3.cell? ⟨gc, 21, none⟩ = some (.int .i64 C.fl.path) := hB3.at_ 21
  have k3 := hB3.frozen 21
  have HB3 := Lib.hid (hB3.path z)
  have H6 := Lib.hid (And.intro ho (grows_ hb3 (some gc)))
  clear ho hb3 hB3
  go_wp2
  go_end0
  exact AnsC.right (hspec.out.trans (by rw [if_neg (by have := HNL.out; omega), H5.out.1, H6.out.1]; rfl)) ((H4.out.1.trans H6.out.2).trans (grown_put _ _ _)) ⟨rfl, HB3.out⟩
end Go.Proofs.Ytmnekhliblkibaa
end

section
/- The contract of cert.purposes. -/
namespace Go.Proofs.Ytmnekhliblkibaa
open Go.RowKit
set_option maxRecDepth 100000
set_option linter.unusedVariables false
set_option linter.unusedSimpArgs false

def Cert.mean (q : Bool) : List El → Option Bool
  | [] => some q
  | x :: r => (Cert.arcs x).bind fun z => Cert.mean (q || z == [1, 3, 6, 1, 5, 5, 7, 3, 3]) r
def Cert.purposes (f : Fl) (x : El) : Option Fl := (Cert.body 48 x).bind fun b => (Der.all b).bind fun l => (Cert.must (decide (0 < (l.length : Int)))).bind fun _ => (Cert.mean false l).bind fun q => some {f with code := q}

theorem fl_code (f : Fl) (a b : Bool) : { { f with code := a } with code := b } = { f with code := b } := rfl

set_option maxHeartbeats 1000000 in
theorem purposes_any (gc : Nat) (C : CV) (t : UInt8) (A1 A2 : Option Addr) (n1 c1 n2 c2 : Nat) (b r : List UInt8) (w : World) (hC : Bc w gc C) (h1 : Rd w w.heap.size A1 n1 c1 b) (hn : n1 ≤ 1099511627) :
    Calls Try.prog 95 #[.pointer (some ⟨gc, 0, none⟩), .agg #[.int .u8 (t.toNat : Int), .slice A1 n1 c1, .slice A2 n2 c2]] w (AnsC gc w (Cert.purposes C.fl (t, b, r)) (FlR gc C)) := by
  have HLB := Lib.hid h1.len
  have hgl := hC.lt
  go_enter Try.func95, Try.ntmps95
  go_wp2_with fail
  refine (body_any t _ _ 48 b r _).mono ?_
  rintro e w1 ⟨hb1, ⟨ho, rfl⟩ | ⟨a, v, ho, rfl, rfl, rfl⟩⟩
  · have hbw1 : Below w.heap.size w w1 := Below.trans (by (repeat (first | exact Below.refl _ _ | assumption | (refine Below.setCell ?_ (by first | omega | (simp; done) | (simp; omega)) _) | (refine Below.alloc ?_ (by first | omega | (simp; done) | (simp; omega)) _) | (refine below_drewN ?_ _) | (refine Below.drew ?_)))) (hb1.mono (by first | omega | (simp; done) | (simp; omega)))
    have HH := Lib.hid (And.intro ho (And.intro (grows_ hbw1 (some gc)) (hC.below hbw1 hgl)))
    clear ho hb1 h1 hbw1 hC
    go_wp2
    exact ⟨rfl, AnsC.wrong (by simp only [Cert.purposes, HH.out.1, Option.bind_none]) HH.out.2.1 HH.out.2.2⟩
  have hbw1 : Below w.heap.size w w1 := Below.trans (by (repeat (first | exact Below.refl _ _ | assumption | (refine Below.setCell ?_ (by first | omega | (simp; done) | (simp; omega)) _) | (refine Below.alloc ?_ (by first | omega | (simp; done) | (simp; omega)) _) | (refine below_drewN ?_ _) | (refine Below.drew ?_)))) (hb1.mono (by first | omega | (simp; done) | (simp; omega)))
  have hs1 := hb1.size
  simp only [World.size_alloc] at hs1
  have H1 := Lib.hid (And.intro ho (And.intro hbw1 (And.intro (h1.up hbw1) (hC.below hbw1 hgl))))
  clear ho hb1 hbw1 h1 hC
  go_wp2_with fail
  refine (all_any A1 n1 c1 a _ H1.out.2.2.1 hn).mono ?_
  rintro e w2 ⟨hb2, ⟨hany, rfl⟩ | ⟨L, A, n, c, hs, rfl, hE⟩⟩
  · have hbw2 := H1.out.2.1.trans (hb2.mono H1.out.2.1.size)
    have H2 := Lib.hid (And.intro hany (And.intro hbw2 (H1.out.2.2.2.below hb2 (by omega))))
    clear hany hb2 hbw2
    go_wp2_with fail
    refine (must_false _).mono ?_
    rintro e w' ⟨rfl, rfl⟩
    go_wp2
    exact ⟨rfl, AnsC.wrong (by simp only [Cert.purposes, H1.out.1, Option.bind_some, all_none H2.out.1, Option.bind_none]) (grows_ H2.out.2.1 _) H2.out.2.2⟩
  have hl := ownE_len hE
  have hcm : n ≤ 9223372036854775807 := by
    obtain ⟨_, _, e, q1, q2, _⟩ := hE.1.shape
    injection e with e1 e2 e3
    omega
  have hall : Der.all a = some (L.map EI.dat) := all_some (by rw [hs, List.map_map]; rfl)
  obtain ⟨l, hl'⟩ : ∃ l, l = L.map EI.dat := ⟨_, rfl⟩
  rw [← hl'] at hall
  have hll : l.length = n := by rw [hl', hl, List.length_map]
  have hbw2 := H1.out.2.1.trans (hb2.mono H1.out.2.1.size)
  have hs2 := hb2.size
  have H2 := Lib.hid (And.intro hall (And.intro hbw2 (And.intro hE (And.intro hl' (And.intro (H1.out.2.2.2.below hb2 (by omega)) hll)))))
  clear hall hE hs hb2 hl hbw2 hl' hll
  by_cases h0 : n = 0
  · subst h0
    go_wp2_with fail
    refine (must_false _).mono ?_
    rintro e w' ⟨rfl, rfl⟩
    go_wp2
    exact ⟨rfl, AnsC.wrong (by simp only [Cert.purposes, H1.out.1, Option.bind_some, H2.out.1, H2.out.2.2.2.2.2]; rfl) (grows_ H2.out.2.1 _) H2.out.2.2.2.2.1⟩
  have hpos : (0 : Int) < n := by omega
  have hpos2 : 0 < n := by omega
  have hspec : Hid (Cert.purposes C.fl (t, a, r) = (Cert.mean false l).bind fun q => some {C.fl with code := q}) := Lib.hid (by
    simp only [Cert.purposes, H1.out.1, Option.bind_some, H2.out.1, H2.out.2.2.2.2.2]; rw [must_t (by simpa using hpos)]; rfl)
  go_wp2_with fail
  refine (must_true _).mono ?_
  rintro e w' ⟨rfl, rfl⟩
  have hB2 := H2.out.2.2.2.2.1
  have k0 : w'.cell? ⟨gc, 23, none⟩ = some (.bool C.fl.code) := hB2.at_ 23
  have k1 := hB2.frozen 23
  have HB2 := Lib.hid (hB2.code false)
  clear hB2
  obtain ⟨g, rfl, hg, hg2⟩ := H2.out.2.2.1.spot_ (by omega)
  go_wp2
  clear k0 k1
  go_loopw [27] (fun i wr => ∃ (k : Nat) (q : Bool), k ≤ n ∧ i = .int .i64 k ∧ w'.grownBy wr (some gc) ∧ Bc wr gc {C with fl := {C.fl with code := q}} ∧ Cert.mean false l = Cert.mean q (l.drop k)) (fun i _ => n - (intOf i).toNat)
  case atStart => exact ⟨0, false, Nat.zero_le _, rfl, grown_put _ _ _, HB2.out, rfl⟩
  case round =>
    obtain ⟨k, q, hk, rfl, hg', hBc, hrun⟩ := hrel
    have hsr := hg'.size
    have HK := Lib.hid (And.intro hg' (And.intro hBc hrun))
    clear hg' hBc hrun
    by_cases hlt : k < n
    · have hlt' : (k : Int) < n := by omega
      have hEr := H2.out.2.2.1.keepRows (KeepRows.grown HK.out.1 (by omega))
      obtain ⟨t0, A3, n3, c3, b0, A4, n4, c4, r0, hx0, p0, p1, p2, R0, R1, hxk⟩ := hEr.el H2.out.2.2.2.1 (Below.refl w'.heap.size wr) (Nat.le_refl _) k (k * 3) hlt rfl
      have hn3 : n3 ≤ 1099511627776 := by
        have hsm := seq_bounds H2.out.1 (t0, b0, r0) (by
          rw [H2.out.2.2.2.1]
          exact List.mem_map.2 ⟨_, List.mem_of_getElem? hxk, rfl⟩)
        have := R0.len; have := HLB.out; simp at hsm; omega
      have hdrop : l.drop k = (t0, b0, r0) :: l.drop (k + 1) := by
        have hlk : k < l.length := by have := H2.out.2.2.2.2.2; omega
        rw [← hx0, List.getD_eq_getElem?_getD, List.getElem?_eq_getElem hlk]
        exact List.drop_eq_getElem_cons hlk
      have HX := Lib.hid (And.intro hdrop R0)
      clear hx0 R0 R1 hxk hEr hdrop
      go_wp2_with fail
      refine (arcs_any t0 A3 A4 n3 c3 n4 c4 b0 r0 _ (((HX.out.2.alloc (by omega) _).more (by simp; omega))) hn3).mono ?_
      rintro e w3 ⟨hb3, ⟨ho, rfl⟩ | ⟨zs, v, ho, rfl, hO⟩⟩
      · have hb3' : Below wr.heap.size wr w3 := Below.trans (by (repeat (first | exact Below.refl _ _ | assumption | (refine Below.setCell ?_ (by first | omega | (simp; done) | (simp; omega)) _) | (refine Below.alloc ?_ (by first | omega | (simp; done) | (simp; omega)) _) | (refine below_drewN ?_ _) | (refine Below.drew ?_)))) (hb3.mono (by simp))
        have HH := Lib.hid (And.intro ho hb3')
        clear ho hb3 hb3'
        go_wp2
        exact ⟨rfl, AnsC.wrong (hspec.out.trans (by rw [HK.out.2.2, HX.out.1]; simp only [Cert.mean, HH.out.1, Option.bind_none])) ((grows_ H2.out.2.1 (some gc)).trans (HK.out.1.trans (grows_ HH.out.2 (some gc)))) (HK.out.2.1.below HH.out.2 (by omega))⟩
      obtain ⟨A5, c5, rfl, hc5, hcm5, hn5, hr5⟩ := hO.shape
      obtain ⟨zn, hzn⟩ : ∃ zn, zs.length = zn := ⟨_, rfl⟩
      rw [hzn] at hc5 hr5 ⊢
      have hb3' : Below wr.heap.size wr w3 := Below.trans (by (repeat (first | exact Below.refl _ _ | assumption | (refine Below.setCell ?_ (by first | omega | (simp; done) | (simp; omega)) _) | (refine Below.alloc ?_ (by first | omega | (simp; done) | (simp; omega)) _) | (refine below_drewN ?_ _) | (refine Below.drew ?_)))) (hb3.mono (by simp))
      have hs3 := hb3'.size
      have H3 := Lib.hid (And.intro ho (And.intro hb3' hr5))
      clear ho hb3 hb3' hO hr5 hn5 hzn p0 p1 p2
      go_wp2_with fail
      refine (eqNums_any A5 _ zn c5 9 9 zs [1, 3, 6, 1, 5, 5, 7, 3, 3] w3.heap.size _ _ (H3.out.2.2.alloc (Nat.le_refl _) _) (reads_block w3 28 ([1, 3, 6, 1, 5, 5, 7, 3, 3].map uv) w3.heap.size rfl) (by simp) (by simp) (by omega)).mono ?_
      rintro e w4 ⟨rfl, hb4⟩
      obtain ⟨z, hz⟩ : ∃ z, (zs == [1, 3, 6, 1, 5, 5, 7, 3, 3]) = z := ⟨_, rfl⟩
      rw [hz]
      have hb4' : Below wr.heap.size wr w4 := (H3.out.2.1.alloc (by omega) _).trans (hb4.mono (by simp; omega))
      have hs4 := hb4'.size
      have hrun : Hid (Cert.mean false l = Cert.mean (q || z) (l.drop (k + 1))) := Lib.hid (by
        rw [HK.out.2.2, HX.out.1]; simp only [Cert.mean, H3.out.1, Option.bind_some, hz])
      have hB4 := HK.out.2.1.below hb4' (by omega)
      have k0 : w4.cell? ⟨gc, 23, none⟩ = some (.bool q) := hB4.at_ 23
      have k1 := hB4.frozen 23
      have H4 := Lib.hid (And.intro (HK.out.1.trans (grows_ hb4' (some gc))) hB4)
      clear hz hb4 hb4' hB4
      cases z
      · go_wp2
        go_roundw
        case rel => exact ⟨k + 1, q, by omega, by go_num, H4.out.1, H4.out.2, by rw [hrun.out, Bool.or_false]⟩
        case measure => simp [intOf]; omega
      · go_wp2
        go_roundw
        case rel => exact ⟨k + 1, true, by omega, by go_num, H4.out.1.trans (grown_put _ _ _), H4.out.2.code true, by rw [hrun.out, Bool.or_true]⟩
        case measure => simp [intOf]; omega
    · obtain rfl : n = k := by omega
      have hge : ¬ (n : Int) < n := by omega
      go_wp2
      go_end0
      exact AnsC.right (hspec.out.trans (by rw [HK.out.2.2, List.drop_eq_nil_of_le (by have := H2.out.2.2.2.2.2; omega)]; rfl)) ((grows_ H2.out.2.1 (some gc)).trans HK.out.1) ⟨rfl, HK.out.2.1⟩
end Go.Proofs.Ytmnekhliblkibaa
end

section
/- The contract of cert.usage. -/
namespace Go.Proofs.Ytmnekhliblkibaa
open Go.RowKit
set_option maxRecDepth 100000
set_option linter.unusedVariables false
set_option linter.unusedSimpArgs false

def Cert.bit (b : List UInt8) (i : Nat) : Nat := (b.getD (i / 8) 0).toNat / 2 ^ (7 - i % 8) % 2
def Cert.bitsum (b : List UInt8) : Nat → Nat
  | 0 => 0
  | k + 1 => Cert.bitsum b k + Cert.bit b k * 2 ^ k
def Cert.usage (f : Fl) (x : El) : Option Fl := (Cert.body 3 x).bind fun b => (Der.bits b).bind fun p =>
  (Cert.must (decide (1 ≤ 8 * (p.1.length : Int) - (p.2 : Int)) && decide (8 * (p.1.length : Int) - (p.2 : Int) ≤ 9))).bind fun _ =>
    (Cert.must (Cert.bit p.1 (8 * p.1.length - p.2 - 1) == 1)).bind fun _ => some {f with usage := (Cert.bitsum p.1 (8 * p.1.length - p.2) : Int)}

theorem bits_seven {xs ys : List UInt8} {k : Nat} (h : Der.bits xs = some (ys, k)) : k ≤ 7 := by
  unfold Der.bits at h
  split at h
  · cases h
  · split at h
    · cases h
    · rename_i hn
      split at h
      · injection h with h; injection h with _ h; omega
      · cases h
theorem bit_lt (b : List UInt8) (i : Nat) : Cert.bit b i < 2 := Nat.mod_lt _ (by omega)
theorem bitsum_lt (b : List UInt8) : ∀ k, Cert.bitsum b k < 2 ^ k
  | 0 => by simp [Cert.bitsum]
  | k + 1 => by
    have h1 := bitsum_lt b k
    have h2 := bit_lt b k
    have h3 : Cert.bit b k * 2 ^ k ≤ 1 * 2 ^ k := Nat.mul_le_mul_right _ (by omega)
    simp only [Cert.bitsum, Nat.pow_succ]
    omega

theorem grown_drew (w : World) (row : Option Nat) : w.grownBy w.drew row := ⟨rfl, rfl, rfl, Nat.le_refl _, fun _ _ _ => rfl⟩
theorem w64_in (n : Int) (h : -9223372036854775808 ≤ n ∧ n ≤ 9223372036854775807) : wrap64 n = n := by unfold wrap64; omega
theorem or_two (z p V : Nat) (hz : z < 2) (hp : p ≤ 256) (hV : V < p) (k : Nat) (hk : 2 ^ k = p) :
    bits .or .i64 (V : Int) (wrap64 (wrap64 (z : Int) * (p : Int))) = ((V + z * p : Nat) : Int) := by
  have h6 : z * p ≤ 1 * p := Nat.mul_le_mul_right _ (by omega)
  have w1 : wrap64 (z : Int) = (z : Int) := w64_in _ (by omega)
  have w2 : (z : Int) * (p : Int) = ((z * p : Nat) : Int) := (Int.natCast_mul z p).symm
  have w3 : wrap64 ((z * p : Nat) : Int) = ((z * p : Nat) : Int) := w64_in _ (by omega)
  rw [w1, w2, w3, i64_or_nat _ _ (by omega) (by omega)]
  congr 1
  have hz2 : z = 0 ∨ z = 1 := by omega
  rcases hz2 with rfl | rfl
  · simp
  · subst hk
    have := Nat.two_pow_add_eq_or_of_lt hV 1
    rw [Nat.mul_one] at this
    rw [Nat.one_mul, Nat.or_comm, ← this, Nat.add_comm]
theorem or_bit (x : UInt8) (V k s : Nat) (hV : V < 2 ^ k) (hk : k < 9) :
    bits .or .i64 (V : Int) (wrap64 (wrap64 (bits .and .u8 ((x.toNat : Int) / 2 ^ s) 1) * 2 ^ k)) = ((V + x.toNat / 2 ^ s % 2 * 2 ^ k : Nat) : Int) := by
  have hx := x.toNat_lt
  obtain ⟨q, hq⟩ : ∃ q, 2 ^ s = q := ⟨_, rfl⟩
  have hqi : (2 : Int) ^ s = (q : Int) := by rw [← hq, Int.natCast_pow]; rfl
  obtain ⟨p, hp⟩ : ∃ p, 2 ^ k = p := ⟨_, rfl⟩
  have hpi : (2 : Int) ^ k = (p : Int) := by rw [← hp, Int.natCast_pow]; rfl
  have h3 : 2 ^ k ≤ 2 ^ 8 := Nat.pow_le_pow_right (by omega) (by omega)
  rw [hp] at h3 hV
  rw [hqi, hpi, hq, hp, ← Int.natCast_ediv]
  have h2 : x.toNat / q < 256 := Nat.lt_of_le_of_lt (Nat.div_le_self _ _) hx
  have h4 : bits .and .u8 ((x.toNat / q : Nat) : Int) 1 = ((x.toNat / q % 2 : Nat) : Int) := by
    have := u8_and_nat (x.toNat / q) 1 h2 (by omega)
    rw [Nat.and_one_is_mod] at this
    exact this
  rw [h4]
  exact or_two _ p V (Nat.mod_lt _ (by omega)) (by omega) hV k hp
theorem bit_top (ys : List UInt8) (m : Nat) (hm : 1 ≤ m) : ((Cert.bitsum ys m : Nat) : Int) / 2 ^ (m - 1) = ((Cert.bit ys (m - 1) : Nat) : Int) := by
  obtain ⟨j, rfl⟩ : ∃ j, m = j + 1 := ⟨m - 1, by omega⟩
  have hb := bitsum_lt ys j
  simp only [Nat.add_sub_cancel, Cert.bitsum]
  obtain ⟨p, hp⟩ : ∃ p, 2 ^ j = p := ⟨_, rfl⟩
  have hpi : (2 : Int) ^ j = (p : Int) := by rw [← hp, Int.natCast_pow]; rfl
  rw [hp] at hb ⊢
  rw [hpi, ← Int.natCast_ediv, Nat.add_mul_div_right _ _ (by omega), Nat.div_eq_of_lt hb, Nat.zero_add]

set_option maxHeartbeats 1000000 in
theorem usage_any (gc : Nat) (C : CV) (t : UInt8) (A1 A2 : Option Addr) (n1 c1 n2 c2 : Nat) (b r : List UInt8) (w : World) (hC : Bc w gc C) (h1 : Rd w w.heap.size A1 n1 c1 b) (hn : n1 ≤ 1099511627) :
    Calls Try.prog 94 #[.pointer (some ⟨gc, 0, none⟩), .agg #[.int .u8 (t.toNat : Int), .slice A1 n1 c1, .slice A2 n2 c2]] w (AnsC gc w (Cert.usage C.fl (t, b, r)) (FlR gc C)) := by
  have HLB := Lib.hid h1.len
  have hgl := hC.lt
  go_enter Try.func94, Try.ntmps94
  go_wp2_with fail
  refine (body_any t _ _ 3 b r _).mono ?_
  rintro e w1 ⟨hb1, ⟨ho, rfl⟩ | ⟨a, v, ho, rfl, rfl, rfl⟩⟩
  · have hbw1 : Below w.heap.size w w1 := Below.trans (by (repeat (first | exact Below.refl _ _ | assumption | (refine Below.setCell ?_ (by first | omega | (simp; done) | (simp; omega)) _) | (refine Below.alloc ?_ (by first | omega | (simp; done) | (simp; omega)) _) | (refine below_drewN ?_ _) | (refine Below.drew ?_)))) (hb1.mono (by first | omega | (simp; done) | (simp; omega)))
    have HH := Lib.hid (And.intro ho (And.intro (grows_ hbw1 (some gc)) (hC.below hbw1 hgl)))
    clear ho hb1 h1 hbw1 hC
    go_wp2
    exact ⟨rfl, AnsC.wrong (by simp only [Cert.usage, HH.out.1, Option.bind_none]) HH.out.2.1 HH.out.2.2⟩
  have hbw1 : Below w.heap.size w w1 := Below.trans (by (repeat (first | exact Below.refl _ _ | assumption | (refine Below.setCell ?_ (by first | omega | (simp; done) | (simp; omega)) _) | (refine Below.alloc ?_ (by first | omega | (simp; done) | (simp; omega)) _) | (refine below_drewN ?_ _) | (refine Below.drew ?_)))) (hb1.mono (by first | omega | (simp; done) | (simp; omega)))
  have hs1 := hb1.size
  simp only [World.size_alloc] at hs1
  have H1 := Lib.hid (And.intro ho (And.intro hbw1 (And.intro (h1.up hbw1) (hC.below hbw1 hgl))))
  clear ho hb1 hbw1 h1 hC
  go_wp2_with fail
  refine (bits_any A1 n1 c1 a _ H1.out.2.2.1 (by omega)).mono ?_
  rintro e w2 ⟨hb2, ⟨hx, rfl⟩ | ⟨ys, u, A, n, c, hx, rfl, hO⟩⟩
  · have hbw2 := H1.out.2.1.trans (hb2.mono H1.out.2.1.size)
    have H2 := Lib.hid (And.intro hx (And.intro hbw2 (H1.out.2.2.2.below hb2 (by omega))))
    clear hx hb2 hbw2
    go_wp2_with fail
    refine (must_false _).mono ?_
    rintro e w' ⟨rfl, rfl⟩
    go_wp2
    exact ⟨rfl, AnsC.wrong (by simp only [Cert.usage, H1.out.1, Option.bind_some, H2.out.1, Option.bind_none]) (grows_ H2.out.2.1 _) H2.out.2.2⟩
  have hbw2 := H1.out.2.1.trans (hb2.mono H1.out.2.1.size)
  have hs2 := hb2.size
  have hu7 := bits_seven hx
  have hln := ownB_len hO
  have hyl : n ≤ 1099511627 := by have := bits_len hx; have := HLB.out; omega
  have hspec : Hid (Cert.usage C.fl (t, a, r) = (Cert.must (decide (1 ≤ 8 * (n : Int) - (u : Int)) && decide (8 * (n : Int) - (u : Int) ≤ 9))).bind fun _ => (Cert.must (Cert.bit ys (8 * n - u - 1) == 1)).bind fun _ => some {C.fl with usage := (Cert.bitsum ys (8 * n - u) : Int)}) :=
    Lib.hid (by simp only [Cert.usage, H1.out.1, Option.bind_some, hx, hln])
  have H2 := Lib.hid (And.intro hbw2 (And.intro hO (And.intro (H1.out.2.2.2.below hb2 (by omega)) hln)))
  clear hx hb2 hbw2 hO hln
  by_cases hr : 1 ≤ 8 * n - u ∧ 8 * n - u ≤ 9
  · obtain ⟨m, hm⟩ : ∃ m, 8 * n - u = m := ⟨_, rfl⟩
    have hmi : 8 * (n : Int) - (u : Int) = (m : Int) := by omega
    rw [hm] at hr
    have hm1 : (1 : Int) ≤ m := by omega
    have hm2 : (m : Int) ≤ 9 := by omega
    have hm3 : 1 ≤ m := by omega
    have hm4 : m ≤ 9 := by omega
    have hnu : n * 8 = m + u := by omega
    go_wp2_with fail
    refine (must_true _).mono ?_
    rintro e w' ⟨rfl, rfl⟩
    have hB2 := H2.out.2.2.1
    have k0 : w'.cell? ⟨gc, 22, none⟩ = some (.int .i64 C.fl.usage) := hB2.at_ 22
    have k1 := hB2.frozen 22
    have HB2 := Lib.hid (hB2.usage 0)
    clear hB2
    obtain ⟨A', n', c', e, hRd⟩ := H2.out.2.1.rd
    injection e with e1 e2 e3
    subst e1 e2 e3
    have HR := Lib.hid hRd
    clear hRd
    go_wp2
    clear k0 k1
    go_loopw [35] (fun i wr => ∃ k : Nat, k ≤ m ∧ i = .int .i64 k ∧ w'.grownBy wr (some gc) ∧ Bc wr gc {C with fl := {C.fl with usage := (Cert.bitsum ys k : Int)}}) (fun i _ => m - (intOf i).toNat)
    case atStart => exact ⟨0, Nat.zero_le _, rfl, grown_put _ _ _, HB2.out⟩
    case round =>
      obtain ⟨k, hk, rfl, hg', hBc⟩ := hrel
      have hsr := hg'.size
      obtain ⟨V, hV⟩ : ∃ V, Cert.bitsum ys k = V := ⟨_, rfl⟩
      have hVl := bitsum_lt ys k
      rw [hV] at hBc hVl
      have hkm : 2 ^ k ≤ 2 ^ 9 := Nat.pow_le_pow_right (by omega) (by omega)
      have j0 : wr.cell? ⟨gc, 22, none⟩ = some (.int .i64 V) := hBc.at_ 22
      have j1 := hBc.frozen 22
      have HK := Lib.hid (And.intro hg' (And.intro hBc hV))
      clear hg' hBc hV
      by_cases hlt : k < m
      · have hlt' : (k : Int) < m := by omega
        have hyk : k / 8 < ys.length := by have := H2.out.2.2.2; omega
        obtain ⟨x, hx⟩ : ∃ x, ys[k / 8]? = some x := ⟨_, List.getElem?_eq_getElem hyk⟩
        obtain ⟨bl, o, rfl, hbl, hcell⟩ := HR.out.at_ (by omega)
        have hOr := H2.out.2.1.keep (w' := wr) (fun j h1 h2 => HK.out.1.block j (by omega) (fun e => by injection e with e; omega))
        have hcx : wr.cell? ⟨bl, o + k / 8, none⟩ = some (.int .u8 (x.toNat : Int)) := by
          obtain ⟨A', n', c', e, hRr⟩ := hOr.rd
          injection e with e1 e2 e3
          subst e1 e2 e3
          obtain ⟨bl', o', e, _, hc⟩ := hRr.at_ (by omega)
          injection e with e
          injection e with e1 e2
          subst e1 e2
          exact hc _ _ hx
        clear hcell hOr
        have hk9 : (k : Int) < 9 := by omega
        go_wp2
        go_region
        have hor := or_bit x V k (7 - k % 8) hVl (by omega)
        have hbit : Cert.bit ys k = x.toNat / 2 ^ (7 - k % 8) % 2 := by
          unfold Cert.bit
          rw [List.getD_eq_getElem?_getD, hx]; rfl
        have e : Cert.bitsum ys (k + 1) = V + x.toNat / 2 ^ (7 - k % 8) % 2 * 2 ^ k := by simp only [Cert.bitsum, HK.out.2.2, hbit]
        obtain ⟨M, hM⟩ : ∃ M, V + x.toNat / 2 ^ (7 - k % 8) % 2 * 2 ^ k = M := ⟨_, rfl⟩
        rw [hM] at hor e
        have HE := Lib.hid e
        clear hbit hM e
        go_wp2
        go_roundw
        case rel => exact ⟨k + 1, by omega, by go_num, (HK.out.1.trans (grown_put wr ⟨gc, 22, none⟩ (.int .i64 (M : Int)))).trans (grown_drew _ _), by
          rw [HE.out]
          exact HK.out.2.1.usage _⟩
        case measure => simp [intOf]; omega
      · obtain rfl : m = k := by omega
        have hge : ¬ (m : Int) < m := by omega
        have hq : Hid (((V : Int) / 2 ^ (m - 1) == 1) = (Cert.bit ys (m - 1) == 1)) := Lib.hid (by
          have := bit_top ys m (by omega)
          rw [HK.out.2.2] at this
          rw [this]
          by_cases h1 : Cert.bit ys (m - 1) = 1
          · rw [h1]; rfl
          · have h2 : ¬ ((Cert.bit ys (m - 1) : Nat) : Int) = 1 := by omega
            rw [beq_eq_false_iff_ne.2 h2, beq_eq_false_iff_ne.2 h1])
        have hsp := hspec.out
        rw [hm, must_t (b := decide (1 ≤ 8 * (n : Int) - (u : Int)) && decide (8 * (n : Int) - (u : Int) ≤ 9)) (by rw [hmi]; simp [hm1, hm2])] at hsp
        have HS := Lib.hid hsp
        clear hsp
        go_wp2_with fail
        refine (must_any _ _).mono ?_
        rintro e w3 ⟨rfl, ⟨hx, rfl⟩ | ⟨hx, rfl⟩⟩
        · have HX := Lib.hid hx
          clear hx
          go_wp2
          refine ⟨rfl, AnsC.wrong (HS.out.trans ?_) ((grows_ H2.out.1 (some gc)).trans HK.out.1) HK.out.2.1⟩
          rw [Option.bind_some, must_f (hq.out.symm.trans HX.out)]
          rfl
        · have HX := Lib.hid hx
          clear hx
          go_wp2
          go_end0
          refine AnsC.right (a := {C.fl with usage := (Cert.bitsum ys m : Int)}) (HS.out.trans ?_) ((grows_ H2.out.1 (some gc)).trans HK.out.1) ⟨rfl, ?_⟩
          · rw [Option.bind_some, must_t (hq.out.symm.trans HX.out)]
            rfl
          · have := HK.out.2.1
            rw [← HK.out.2.2] at this
            exact this
  · have hno : Hid (Cert.usage C.fl (t, a, r) = none) := Lib.hid (hspec.out.trans (by rw [must_f (b := decide (1 ≤ 8 * (n : Int) - (u : Int)) && decide (8 * (n : Int) - (u : Int) ≤ 9)) (by simp; omega)]; rfl))
    by_cases h1 : 1 ≤ 8 * (n : Int) - (u : Int)
    · have h2 : ¬ (8 * (n : Int) - (u : Int) ≤ 9) := by omega
      have h3 : 9 < 8 * (n : Int) - (u : Int) := by omega
      go_wp2_with fail
      refine (must_any _ _).mono ?_
      rintro e w' ⟨rfl, ⟨hq, rfl⟩ | ⟨hq, rfl⟩⟩
      case inr => exact absurd (of_decide_eq_true hq) (by omega)
      clear hq
      go_wp2
      exact ⟨rfl, AnsC.wrong hno.out (grows_ H2.out.1 _) H2.out.2.2.1⟩
    · have h3 : 8 * (n : Int) - (u : Int) < 1 := by omega
      go_wp2_with fail
      refine (must_false _).mono ?_
      rintro e w' ⟨rfl, rfl⟩
      go_wp2
      exact ⟨rfl, AnsC.wrong hno.out (grows_ H2.out.1 _) H2.out.2.2.1⟩
end Go.Proofs.Ytmnekhliblkibaa
end
