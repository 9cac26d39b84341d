/- The signatures of an image, one by one: the closure that hands them on. -/
import Derived.Test.YtmpladnglfiejaaGreatDoorPD
import Derived.Test.YtmpladnglfiejaaGreatDoorPC
import Derived.Test.YtmpladnglfiejaaGreatDoorPB
import Derived.Test.YtmpladnglfiejaaGreatDoorPE
import Derived.RangeFuncNested
import Derived.RangeFuncBound
import Derived.RangeFuncCalls
import Derived.RangeFuncLeaves
import Derived.Shelf.Abstract
import Derived.WalkKit
import Derived.OwnWalkIn
import Derived.TacticsInMore
import Derived.LoopNIn
import Derived.LoopIn
import Derived.Deep.Cut
import Derived.Deep.CutRange
import Derived.BigQuiet
import Derived.Deep.QuietTactic
namespace Go.Proofs.YtmpladnglfiejaaGreatDoor
open Go.RowKit Go.Shelf
attribute [local go_sem] Oper.semAt_some
set_option maxRecDepth 100000
set_option linter.unusedVariables false
set_option linter.unusedSimpArgs false

/-- The reader, the cell that points to it, the cell of the place. -/
structure RW (g Pn Bn : Nat) (s : Value) (f : Bool) (a : Nat) (W : World) : Prop where
  rd : Blk W g 70 #[s, .bool f]
  ptr : Blk W Pn 68 #[.pointer (some ⟨g, 0, none⟩)]
  at_ : Blk W Bn 3 #[.int .i64 (a : Int)]
  gP : g < Pn
  PB : Pn < Bn
theorem RW.below {g Pn Bn a : Nat} {s : Value} {f : Bool} {W W' : World} (h : RW g Pn Bn s f a W) (hb : Below W.heap.size W W') : RW g Pn Bn s f a W' :=
  ⟨h.rd.below hb h.rd.lt, h.ptr.below hb h.ptr.lt, h.at_.below hb h.at_.lt, h.gP, h.PB⟩
theorem RW.stp {g Pn Bn a : Nat} {s : Value} {f f' : Bool} {W W' : World} (h : RW g Pn Bn s f a W) (hs : Stp g s f' W W') : RW g Pn Bn s f' a W' :=
  ⟨hs.blk, h.ptr.grown hs.grown (fun e => by injection e with e; have := h.gP; omega), h.at_.grown hs.grown (fun e => by injection e with e; have := h.gP; have := h.PB; omega), h.gP, h.PB⟩
/-- What abides the iterator's own steps. -/
def AbRW {β : Type} (g Bn : Nat) (J : β → World → Prop) : Prop := ∀ s X Y r, J s X → X.grownBy Y r → (∀ j, r = some j → j = g ∨ j = Bn) → J s Y
theorem AbRW.below {β : Type} {g Bn : Nat} {J : β → World → Prop} (h : AbRW g Bn J) {s : β} {X Y : World} (hj : J s X) (hb : Below X.heap.size X Y) : J s Y :=
  h s X Y none hj ⟨hb.os, hb.tape, hb.output, hb.size, fun k hk _ => hb.block k hk⟩ (fun j e => by cases e)
set_option maxHeartbeats 4000000 in
theorem rows1_in (n : Nat) (hn : 1 ≤ n) (l g Pn Bn n₀ : Nat) (w₀ : World) (A : Option Addr) (m c : Nat) (xs : List UInt8) (hr : Rd w₀ n₀ A m c xs) (hm : m ≤ 16777216) (hn₀ : n₀ ≤ g) (J : List (Value × List UInt8) → World → Prop)
    (hJ : AbRW g Bn J) (hJb : ∀ s X, J s X → Below n₀ w₀ X)
    (hY : ∀ pre v zs W0 W1, J pre W0 → pre.length < m → Below W0.heap.size W0 W1 → OwnB W1 W0.heap.size W1.heap.size v zs → YieldAt Fence.wide (n - 1) Tryz.prog l #[v] W1 fun e W' => e = .returned (.bool true) ∧ J (pre ++ [(v, zs)]) W' ∧ ∀ k, k = g ∨ k = Pn ∨ k = Bn → W'.heap[k]? = W1.heap[k]?)
    (a0 : Nat) (W : World) (f0 : Bool) (hW : RW g Pn Bn (.slice A m c) f0 a0 W) (h0 : J [] W) (ha0 : a0 ≤ 4294967296) :
    CallsIn Fence.wide n Tryz.prog 73 #[.func (.yield l) #[] #[], .pointer (some ⟨Pn, 0, none⟩), .pointer (some ⟨Bn, 0, none⟩)] W fun e W' => (∃ v, e = .returned v) ∧
      ∃ pre a, J pre W' ∧ RW g Pn Bn (.slice A m c) (f0 && (Pe.rows xs a0).isSome) a W' ∧ ∀ L, f0 = true → Pe.rows xs a0 = some L → pre.map (·.2) = L := by
  have hl := hr.len
  have HK := Lib.hid (And.intro hr (And.intro hJ (And.intro hJb hY)))
  clear hr hJ hJb hY
  refine callsIn_of_wp Tryz.func73 rfl trivial ?_ rfl
  simp only [Tryz.ntmps73, List.size_toArray, List.length_cons, List.length_nil, Nat.reduceAdd, Nat.reduceSub, Array.replicate_succ, Array.replicate_zero, List.push_toArray, List.append_toArray, List.nil_append, List.cons_append]
  gi_wp2
  gi_loopw [4] (fun _ wr => ∃ (pre : List (Value × List UInt8)) (a : Nat) (f : Bool), RW g Pn Bn (.slice A m c) f a wr ∧ J pre wr ∧ (f = true → (a ≤ 4294967296 + m ∧ f0 = true) ∧ Pe.rows xs a0 = (Pe.rows xs a).map (pre.map (·.2) ++ ·)) ∧ (f = false → (f0 && (Pe.rows xs a0).isSome) = false) ∧ (f = true → pre.length * 16 + (m - a) ≤ m))
    (fun _ wr => match wr.cell? ⟨g, 1, none⟩ with | some (.bool true) => (match wr.cell? ⟨Bn, 0, none⟩ with | some (.int _ v) => m - v.toNat + 1 | _ => 0) | _ => 0)
  case atStart => exact ⟨[], a0, f0, hW, h0, fun hf => ⟨⟨by omega, hf⟩, by simp⟩, (fun e => by rw [e]; rfl), fun _ => by simp⟩
  case round =>
    obtain ⟨pre, a, f, hw, hj, hf1, hf0, hpl⟩ := hrel
    obtain ⟨hcg, hfg⟩ := hw.rd.facts
    have q0 : wr.cell? ⟨g, 0, none⟩ = some (.slice A m c) := hcg 0
    have q1 : wr.cell? ⟨g, 1, none⟩ = some (.bool f) := hcg 1
    have qP : wr.cell? ⟨Pn, 0, none⟩ = some (.pointer (some ⟨g, 0, none⟩)) := hw.ptr.cell 0
    have qB : wr.cell? ⟨Bn, 0, none⟩ = some (.int .i64 (a : Int)) := hw.at_.cell 0
    have HR := Lib.hid (And.intro hw (And.intro hj (And.intro hf1 (And.intro hf0 hpl))))
    clear hw hj hf1 hf0 hpl hcg hfg hW h0
    cases f
    · gi_wp2
      refine wpIn_wide.2 ?_
      go_quiet (fail)
      gi_wp2
      go_end0
      have hb := below_drewN (Below.refl wr.heap.size wr) nq
      have e := HR.out.2.2.2.1 (by first | rfl | trivial)
      exact ⟨⟨_, rfl⟩, pre, a, HK.out.2.1.below HR.out.2.1 hb, by rw [e]; exact HR.out.1.below hb, fun L h0 hL => by rw [h0, hL] at e; cases e⟩
    · by_cases ha : a < m
      · have ha' : (a : Int) < m := by omega
        gi_wp2
        refine wpIn_wide.2 ?_
        go_quiet (fail)
        have hrw := HK.out.1.below (HK.out.2.2.1 _ _ HR.out.2.1)
        have hgw : g < wr.heap.size := HR.out.1.rd.lt
        have hat := at_at g A m c xs true a 4 (a : Int) (wr.drewN nq) rfl HR.out.1.rd ((hrw.more hn₀).drewN nq) (by omega) (by omega) (.inr (.inr rfl)) 4 rfl
        have hN := Pe.at_lt4 xs a
        obtain ⟨N, hNe⟩ : ∃ N, Pe.at_ xs a 4 = N := ⟨_, rfl⟩
        rw [hNe, Bool.true_and] at hat
        rw [hNe] at hN
        have HA := Lib.hid (And.intro hat (And.intro hrw hNe))
        clear hat hrw hNe
        gi_wp2_with fail
        refine ⟨trivial, (callsIn_wide.2 HA.out.1).mono ?_⟩
        rintro e w2 ⟨rfl, hS2⟩
        have hg02 : wr.grownBy w2 (some g) := grown_on (r := some g) (grown_refl wr (some g)) ⟨hS2.grown.os, hS2.grown.tape, hS2.grown.output, hS2.grown.size, hS2.grown.block⟩ (fun j e => .inr (by injection e with e; exact e.symm))
        have hw2 : RW g Pn Bn (.slice A m c) (Pe.inb xs a 4) a w2 := HR.out.1.stp ⟨hS2.blk, hg02⟩
        have hrd2 : Rd w2 g A m c xs := rd_grown (HA.out.2.1.more hn₀) hg02 (Nat.le_refl _) hgw
        have H2 := Lib.hid (And.intro hg02 (And.intro hw2 hrd2))
        clear hS2 hg02 hw2 hrd2 q0 q1 qP qB
        gi_wp2_with fail
        refine wpIn_wide.2 ?_
        go_cut [] from 5 to 90 (fun wx => RW g Pn Bn (.slice A m c) (Pe.rowOk xs a) a wx ∧ w2.grownBy wx (some g))
        case first =>
          have qP : w2.cell? ⟨Pn, 0, none⟩ = some (.pointer (some ⟨g, 0, none⟩)) := H2.out.2.1.ptr.cell 0
          have qB : w2.cell? ⟨Bn, 0, none⟩ = some (.int .i64 (a : Int)) := H2.out.2.1.at_.cell 0
          obtain ⟨hcg, _⟩ := H2.out.2.1.rd.facts
          have q0 : w2.cell? ⟨g, 0, none⟩ = some (.slice A m c) := hcg 0
          have hgP := HR.out.1.gP
          have hPB := HR.out.1.PB
          have hgl2 : g < w2.heap.size := H2.out.2.1.rd.lt
          clear hcg
          obtain ⟨f0, hf0⟩ : ∃ f0, Pe.inb xs a 4 = f0 := ⟨_, rfl⟩
          obtain ⟨f4, hf4⟩ : ∃ f4, Pe.inb xs (a + 4) 2 = f4 := ⟨_, rfl⟩
          obtain ⟨f6, hf6⟩ : ∃ f6, Pe.inb xs (a + 6) 2 = f6 := ⟨_, rfl⟩
          obtain ⟨u, hu⟩ : ∃ u, Pe.up N = u := ⟨_, rfl⟩
          have hul : u ≤ 4294967312 := by rw [← hu]; unfold Pe.up; omega
          have hro : Pe.rowOk xs a = (f0 && (decide (8 < N) && (f4 && (Pe.at_ xs (a + 4) 2 == 512)) && (f6 && (Pe.at_ xs (a + 6) 2 == 2)) && decide (u ≤ m - a))) := by
            unfold Pe.rowOk
            rw [HA.out.2.2, hf0, hf4, hf6, hu, hl]
          have HD : RW g Pn Bn (.slice A m c) f0 a w2.drew := by rw [← hf0]; exact H2.out.2.1.below (below_drewN (Below.refl _ _) 1)
          have hc4 := at_at g A m c xs f0 (a + 4) 2 ((a : Int) + 4) w2.drew (by omega) HD.rd H2.out.2.2.drew (by omega) (by omega) (.inr (.inl rfl)) 2 rfl
          have hc6 : ∀ w3, Stp g (.slice A m c) (f0 && f4) w2.drew w3 → Calls Tryz.prog 51 #[.pointer (some ⟨g, 0, none⟩), .int .i64 ((a : Int) + 6), .int .i64 2] w3 fun e w' => e = .returned (.int .i64 (Pe.at_ xs (a + 6) 2 : Int)) ∧ Stp g (.slice A m c) (f0 && f4 && f6) w2.drew w' := fun w3 hS3 =>
            (at_at g A m c xs (f0 && f4) (a + 6) 2 ((a : Int) + 6) w3 (by omega) hS3.blk (rd_grown H2.out.2.2.drew hS3.grown (Nat.le_refl _) HD.rd.lt) (by omega) (by omega) (.inr (.inl rfl)) 2 rfl).mono fun e w' h => ⟨h.1, by rw [← hf6]; exact hS3.trans h.2⟩
          have hcm : ∀ f ok w3, Stp g (.slice A m c) f w2.drew w3 → Calls Tryz.prog 52 #[.pointer (some ⟨g, 0, none⟩), .bool ok] w3 fun e w' => e = .returned (.tuple #[]) ∧ Stp g (.slice A m c) (f && ok) w2.drew w' := fun f ok w3 hS3 =>
            (must_any g (.slice A m c) f ok w3 hS3.blk ⟨_, _, _, rfl⟩).mono fun e w' h => ⟨h.1, hS3.trans h.2⟩
          have hst0 : Stp g (.slice A m c) f0 w2.drew w2.drew := ⟨HD.rd, grown_refl _ _⟩
          have hend : ∀ f w', Stp g (.slice A m c) f w2.drew w' → f = Pe.rowOk xs a → RW g Pn Bn (.slice A m c) (Pe.rowOk xs a) a w' ∧ w2.grownBy w' (some g) := fun f w' hS hf => ⟨by rw [← hf]; exact HD.stp hS, grown_on (r := some g) (grownBy_of_below (below_drewN (Below.refl w2.heap.size w2) 1)) hS.grown (fun j e => .inr (by injection e with e; exact e.symm))⟩
          have hcl : ∀ f w', Stp g (.slice A m c) f w2.drew w' → w'.cell? ⟨Pn, 0, none⟩ = some (.pointer (some ⟨g, 0, none⟩)) ∧ w'.cell? ⟨Bn, 0, none⟩ = some (.int .i64 (a : Int)) ∧ w'.cell? ⟨g, 0, none⟩ = some (.slice A m c) := fun f w' hS => ⟨(HD.stp hS).ptr.cell 0, (HD.stp hS).at_.cell 0, (hS.blk.facts).1 0⟩
          obtain ⟨N4, hN4⟩ : ∃ N4, Pe.at_ xs (a + 4) 2 = N4 := ⟨_, rfl⟩
          obtain ⟨N6, hN6⟩ : ∃ N6, Pe.at_ xs (a + 6) 2 = N6 := ⟨_, rfl⟩
          rw [hN4, hf4] at hc4
          rw [hN6] at hc6
          rw [hN4, hN6] at hro
          have HK4 := Lib.hid (And.intro hc4 (And.intro hc6 (And.intro hcm (And.intro hend (And.intro hcl (And.intro hro hst0))))))
          have hlt4 : N4 < 65536 := by rw [← hN4]; exact Pe.at_lt2 _ _
          have hlt6 : N6 < 65536 := by rw [← hN6]; exact Pe.at_lt2 _ _
          have hun : ∀ W : World, Calls Tryz.prog 74 #[.int .i64 (N : Int)] W fun e w' => e = .returned (.int .i64 (u : Int)) ∧ w' = W := fun W => by rw [← hu]; exact up_any N W (by omega)
          obtain ⟨b1, hb1⟩ : ∃ b1, decide ((8 : Int) < N) = b1 := ⟨_, rfl⟩
          obtain ⟨b2, hb2⟩ : ∃ b2, decide ((N4 : Int) = 512) = b2 := ⟨_, rfl⟩
          obtain ⟨b3, hb3⟩ : ∃ b3, decide ((N6 : Int) = 2) = b3 := ⟨_, rfl⟩
          obtain ⟨b4, hb4⟩ : ∃ b4, decide ((u : Int) ≤ (m : Int) - a) = b4 := ⟨_, rfl⟩
          have hrow : Pe.rowOk xs a = (f0 && (b1 && (f4 && b2) && (f6 && b3) && b4)) := by
            rw [hro, ← hb1, ← hb2, ← hb3, ← hb4, beq_dec, beq_dec, show decide ((8 : Int) < N) = decide (8 < N) from decide_eq_decide.2 (by omega), show decide ((N4 : Int) = 512) = decide (N4 = 512) from decide_eq_decide.2 (by omega), show decide ((N6 : Int) = 2) = decide (N6 = 2) from decide_eq_decide.2 (by omega), show decide ((u : Int) ≤ (m : Int) - a) = decide (u ≤ m - a) from decide_eq_decide.2 (by omega)]
          have hc4' : ∀ f W, Stp g (.slice A m c) f w2.drew W → Calls Tryz.prog 51 #[.pointer (some ⟨g, 0, none⟩), .int .i64 ((a : Int) + 4), .int .i64 2] W fun e w' => e = .returned (.int .i64 (N4 : Int)) ∧ Stp g (.slice A m c) (f && f4) w2.drew w' := fun f W hS =>
            (at_at g A m c xs f (a + 4) 2 ((a : Int) + 4) W (by omega) hS.blk (rd_grown H2.out.2.2.drew hS.grown (Nat.le_refl _) HD.rd.lt) (by omega) (by omega) (.inr (.inl rfl)) 2 rfl).mono fun e w' h => ⟨by rw [← hN4]; exact h.1, by rw [← hf4]; exact hS.trans h.2⟩
          have hc6' : ∀ f W, Stp g (.slice A m c) f w2.drew W → Calls Tryz.prog 51 #[.pointer (some ⟨g, 0, none⟩), .int .i64 ((a : Int) + 6), .int .i64 2] W fun e w' => e = .returned (.int .i64 (N6 : Int)) ∧ Stp g (.slice A m c) (f && f6) w2.drew w' := fun f W hS =>
            (at_at g A m c xs f (a + 6) 2 ((a : Int) + 6) W (by omega) hS.blk (rd_grown H2.out.2.2.drew hS.grown (Nat.le_refl _) HD.rd.lt) (by omega) (by omega) (.inr (.inl rfl)) 2 rfl).mono fun e w' h => ⟨by rw [← hN6]; exact h.1, by rw [← hf6]; exact hS.trans h.2⟩
          have hcl' : ∀ W, RowG g (.slice A m c) f0 (f0 && (b1 && (f4 && b2) && (f6 && b3) && b4)) w2.drew W → W.cell? ⟨Pn, 0, none⟩ = some (.pointer (some ⟨g, 0, none⟩)) ∧ W.cell? ⟨Bn, 0, none⟩ = some (.int .i64 (a : Int)) ∧ W.cell? ⟨g, 0, none⟩ = some (.slice A m c) := fun W h => by obtain ⟨f, hs, _⟩ := h; exact hcl f W hs
          have HC := Lib.hid (And.intro (And.intro hb1.symm (And.intro hb2.symm (And.intro hb3.symm hb4.symm))) (And.intro hcl' (And.intro hc4' (And.intro hc6' (And.intro hun (And.intro hcm (And.intro hend (And.intro hrow hst0))))))))
          have hlt4 : N4 < 65536 := by rw [← hN4]; exact Pe.at_lt2 _ _
          have hlt6 : N6 < 65536 := by rw [← hN6]; exact Pe.at_lt2 _ _
          clear hb1 hb2 hb3 hb4 hrow hc4' hc6' hcl' hun hc4 hc6 hcm hend hcl hro hst0 HD hN4 hN6 hf0 hf4 hf6
          refine wp_region_facts (RowV g Pn Bn m c a N N4 N6 u A b1 b2 b3 b4) (RowM g b1 b2 b3 b4 f4 f6) (RowG g (.slice A m c) f0 (f0 && (b1 && (f4 && b2) && (f6 && b3) && b4)) w2.drew) (RowR g (.slice A m c) f0 (f0 && (b1 && (f4 && b2) && (f6 && b3) && b4)) w2.drew) rfl (RowR.refl _ _ _ _ _) (fun w w' h1 h2 => h2.2 h1) (fun i w w' h1 h2 => RowM.mono h2.1 i h1) (by show dstsOk _ 91 = true; decide +kernel) (by decide +kernel) ⟨f0, HC.out.2.2.2.2.2.2.2.2, id, fun h => by simp only [Bool.and_eq_true] at h; exact h.1⟩ ⟨?_, ?_, ?_, ?_, ?_, ?_, ?_, ?_, ?_, ?_, ?_, ?_, ?_, ?_, ?_, ?_, ?_, ?_, ?_, ?_, ?_, ?_, ?_, ?_, ?_, ?_, ?_, ?_, ?_, ?_, trivial⟩ ?_
          · refine RStep.run (by simp) rfl ?_; intro a' W hfr hdep hG; exact F_load rfl (hfr 1 (by decide +kernel)) (load_ptrR (HC.out.2.1 W hG).1) trivial (RowR.refl _ _ _ _ _ _)
          · refine RStep.run (by simp) rfl ?_; intro a' W hfr hdep hG; exact F_move rfl (hfr 4 (by decide +kernel)) trivial (RowR.refl _ _ _ _ _ _)
          · refine RStep.run (by simp) rfl ?_; intro a' W hfr hdep hG; have d1 := hdep 1 (by decide +kernel); have d1 : a'.eval (.tmp 22) = _ := d1; refine F_val ?_ trivial (RowR.refl _ _ _ _ _ _); simp only [execOp, d1]; rw [show RowV g Pn Bn m c a N N4 N6 u A b1 b2 b3 b4 2 = .bool (decide ((8 : Int) < N)) from by rw [HC.out.1.1]; rfl]; simp [go_sem, Act.eval, RowV]
          · refine RStep.run (by simp) rfl ?_; intro a' W hfr hdep hG; have d2 := hdep 2 (by decide +kernel); have d2 : a'.eval (.tmp 23) = _ := d2; exact F_move rfl d2 trivial (RowR.refl _ _ _ _ _ _)
          · refine RStep.on 3 b1 true (by simp) rfl (by decide +kernel) rfl (fun h => ⟨by simp only [RowV]; rw [if_neg (by simpa using h)], fun _ => (by first | trivial | exact fun e => absurd e (by simpa using h))⟩) (fun hb => ?_); intro a' W hfr hdep hG; rw [show RowV g Pn Bn m c a N N4 N6 u A b1 b2 b3 b4 4 = _ from if_pos hb]; exact F_load rfl (hfr 1 (by decide +kernel)) (load_ptrR (HC.out.2.1 W hG).1) trivial (RowR.refl _ _ _ _ _ _)
          · refine RStep.on 3 b1 true (by simp) rfl (by decide +kernel) rfl (fun h => ⟨by simp only [RowV]; rw [if_neg (by simpa using h)], fun _ => (by first | trivial | exact fun e => absurd e (by simpa using h))⟩) (fun hb => ?_); intro a' W hfr hdep hG; rw [show RowV g Pn Bn m c a N N4 N6 u A b1 b2 b3 b4 5 = _ from if_pos hb]; exact F_load rfl (hfr 2 (by decide +kernel)) (load_intR (HC.out.2.1 W hG).2.1) trivial (RowR.refl _ _ _ _ _ _)
          · refine RStep.on 3 b1 true (by simp) rfl (by decide +kernel) rfl (fun h => ⟨by simp only [RowV]; rw [if_neg (by simpa using h)], fun _ => (by first | trivial | exact fun e => absurd e (by simpa using h))⟩) (fun hb => ?_); intro a' W hfr hdep hG; have d5 := hdep 5 (by decide +kernel); rw [show RowV g Pn Bn m c a N N4 N6 u A b1 b2 b3 b4 5 = _ from if_pos hb] at d5; have d5 : a'.eval (.tmp 26) = _ := d5; rw [show RowV g Pn Bn m c a N N4 N6 u A b1 b2 b3 b4 6 = _ from if_pos hb]; refine F_val ?_ trivial (RowR.refl _ _ _ _ _ _); simp only [execOp, d5]; simp [go_sem, Act.eval]; rw [IntKind.wrap_i64]; omega
          · refine RStep.on 3 b1 true (by simp) rfl (by decide +kernel) rfl (fun h => ⟨by simp only [RowV]; rw [if_neg (by simpa using h)], fun _ => (by first | trivial | exact fun e => absurd e (by simpa using h))⟩) (fun hb => ?_); intro a' W hfr hdep hG; have d4 := hdep 4 (by decide +kernel); rw [show RowV g Pn Bn m c a N N4 N6 u A b1 b2 b3 b4 4 = _ from if_pos hb] at d4; have d4 : a'.eval (.tmp 25) = _ := d4; have d6 := hdep 6 (by decide +kernel); rw [show RowV g Pn Bn m c a N N4 N6 u A b1 b2 b3 b4 6 = _ from if_pos hb] at d6; have d6 : a'.eval (.tmp 27) = _ := d6; rw [show RowV g Pn Bn m c a N N4 N6 u A b1 b2 b3 b4 7 = _ from if_pos hb]; obtain ⟨f, hs, hf1, hf2⟩ := hG; refine F_call rfl Tryz.func51 rfl (by decide) (args := #[.pointer (some ⟨g, 0, none⟩), .int .i64 ((a : Int) + 4), .int .i64 2]) (by simp only [List.map_toArray, List.map_cons, List.map_nil, d4, d6]; rfl) (HC.out.2.2.1 f W hs) ?_; rintro e w' ⟨rfl, hs'⟩; have hk := RowR.cut hs hf1 hf2 hs' (by intro hr; simp only [Bool.and_eq_true] at hr; exact hr.2.1.1.2.1); exact ⟨rfl, fun _ => hk.2, hk.1⟩
          · refine RStep.on 3 b1 true (by simp) rfl (by decide +kernel) rfl (fun h => ⟨by simp only [RowV]; rw [if_neg (by simpa using h)], fun _ => (by first | trivial | exact fun e => absurd e (by simpa using h))⟩) (fun hb => ?_); intro a' W hfr hdep hG; have d7 := hdep 7 (by decide +kernel); rw [show RowV g Pn Bn m c a N N4 N6 u A b1 b2 b3 b4 7 = _ from if_pos hb] at d7; have d7 : a'.eval (.tmp 28) = _ := d7; rw [show RowV g Pn Bn m c a N N4 N6 u A b1 b2 b3 b4 8 = _ from if_pos hb]; refine F_val ?_ trivial (RowR.refl _ _ _ _ _ _); simp only [execOp, d7]; rw [HC.out.1.2.1]; simp [go_sem, Act.eval, Bool.beq_eq_decide_eq]
          · refine RStep.run (by simp) rfl ?_; intro a' W hfr hdep hG; have d3 := hdep 3 (by decide +kernel); have d3 : a'.eval (.tmp 24) = _ := d3; have d8 := hdep 8 (by decide +kernel); have d8 : a'.eval (.tmp 29) = _ := d8; exact F_pick rfl d3 (by rw [d8]; exact pick_if b1 b2) trivial (RowR.refl _ _ _ _ _ _)
          · refine RStep.run (by simp) rfl ?_; intro a' W hfr hdep hG; have d9 := hdep 9 (by decide +kernel); have d9 : a'.eval (.tmp 30) = _ := d9; exact F_move rfl d9 trivial (RowR.refl _ _ _ _ _ _)
          · refine RStep.on 10 (b1 && b2) true (by simp) rfl (by decide +kernel) rfl (fun h => ⟨by simp only [RowV]; rw [if_neg (by simpa using h)], fun _ => (by first | trivial | exact fun e => absurd e (by simpa using h))⟩) (fun hb => ?_); intro a' W hfr hdep hG; rw [show RowV g Pn Bn m c a N N4 N6 u A b1 b2 b3 b4 11 = _ from if_pos hb]; exact F_load rfl (hfr 1 (by decide +kernel)) (load_ptrR (HC.out.2.1 W hG).1) trivial (RowR.refl _ _ _ _ _ _)
          · refine RStep.on 10 (b1 && b2) true (by simp) rfl (by decide +kernel) rfl (fun h => ⟨by simp only [RowV]; rw [if_neg (by simpa using h)], fun _ => (by first | trivial | exact fun e => absurd e (by simpa using h))⟩) (fun hb => ?_); intro a' W hfr hdep hG; rw [show RowV g Pn Bn m c a N N4 N6 u A b1 b2 b3 b4 12 = _ from if_pos hb]; exact F_load rfl (hfr 2 (by decide +kernel)) (load_intR (HC.out.2.1 W hG).2.1) trivial (RowR.refl _ _ _ _ _ _)
          · refine RStep.on 10 (b1 && b2) true (by simp) rfl (by decide +kernel) rfl (fun h => ⟨by simp only [RowV]; rw [if_neg (by simpa using h)], fun _ => (by first | trivial | exact fun e => absurd e (by simpa using h))⟩) (fun hb => ?_); intro a' W hfr hdep hG; have d12 := hdep 12 (by decide +kernel); rw [show RowV g Pn Bn m c a N N4 N6 u A b1 b2 b3 b4 12 = _ from if_pos hb] at d12; have d12 : a'.eval (.tmp 33) = _ := d12; rw [show RowV g Pn Bn m c a N N4 N6 u A b1 b2 b3 b4 13 = _ from if_pos hb]; refine F_val ?_ trivial (RowR.refl _ _ _ _ _ _); simp only [execOp, d12]; simp [go_sem, Act.eval]; rw [IntKind.wrap_i64]; omega
          · refine RStep.on 10 (b1 && b2) true (by simp) rfl (by decide +kernel) rfl (fun h => ⟨by simp only [RowV]; rw [if_neg (by simpa using h)], fun _ => (by first | trivial | exact fun e => absurd e (by simpa using h))⟩) (fun hb => ?_); intro a' W hfr hdep hG; have d11 := hdep 11 (by decide +kernel); rw [show RowV g Pn Bn m c a N N4 N6 u A b1 b2 b3 b4 11 = _ from if_pos hb] at d11; have d11 : a'.eval (.tmp 32) = _ := d11; have d13 := hdep 13 (by decide +kernel); rw [show RowV g Pn Bn m c a N N4 N6 u A b1 b2 b3 b4 13 = _ from if_pos hb] at d13; have d13 : a'.eval (.tmp 34) = _ := d13; rw [show RowV g Pn Bn m c a N N4 N6 u A b1 b2 b3 b4 14 = _ from if_pos hb]; obtain ⟨f, hs, hf1, hf2⟩ := hG; refine F_call rfl Tryz.func51 rfl (by decide) (args := #[.pointer (some ⟨g, 0, none⟩), .int .i64 ((a : Int) + 6), .int .i64 2]) (by simp only [List.map_toArray, List.map_cons, List.map_nil, d11, d13]; rfl) (HC.out.2.2.2.1 f W hs) ?_; rintro e w' ⟨rfl, hs'⟩; have hk := RowR.cut hs hf1 hf2 hs' (by intro hr; simp only [Bool.and_eq_true] at hr; exact hr.2.1.2.1); exact ⟨rfl, fun _ => hk.2, hk.1⟩
          · refine RStep.on 10 (b1 && b2) true (by simp) rfl (by decide +kernel) rfl (fun h => ⟨by simp only [RowV]; rw [if_neg (by simpa using h)], fun _ => (by first | trivial | exact fun e => absurd e (by simpa using h))⟩) (fun hb => ?_); intro a' W hfr hdep hG; have d14 := hdep 14 (by decide +kernel); rw [show RowV g Pn Bn m c a N N4 N6 u A b1 b2 b3 b4 14 = _ from if_pos hb] at d14; have d14 : a'.eval (.tmp 35) = _ := d14; rw [show RowV g Pn Bn m c a N N4 N6 u A b1 b2 b3 b4 15 = _ from if_pos hb]; refine F_val ?_ trivial (RowR.refl _ _ _ _ _ _); simp only [execOp, d14]; rw [HC.out.1.2.2.1]; simp [go_sem, Act.eval, Bool.beq_eq_decide_eq]
          · refine RStep.run (by simp) rfl ?_; intro a' W hfr hdep hG; have d10 := hdep 10 (by decide +kernel); have d10 : a'.eval (.tmp 31) = _ := d10; have d15 := hdep 15 (by decide +kernel); have d15 : a'.eval (.tmp 36) = _ := d15; exact F_pick rfl d10 (by rw [d15]; exact pick_if (b1 && b2) b3) trivial (RowR.refl _ _ _ _ _ _)
          · refine RStep.run (by simp) rfl ?_; intro a' W hfr hdep hG; have d16 := hdep 16 (by decide +kernel); have d16 : a'.eval (.tmp 37) = _ := d16; exact F_move rfl d16 trivial (RowR.refl _ _ _ _ _ _)
          · refine RStep.on 17 (b1 && b2 && b3) true (by simp) rfl (by decide +kernel) rfl (fun h => ⟨by simp only [RowV]; rw [if_neg (by simpa using h)], fun _ => (by first | trivial | exact fun e => absurd e (by simpa using h))⟩) (fun hb => ?_); intro a' W hfr hdep hG; rw [show RowV g Pn Bn m c a N N4 N6 u A b1 b2 b3 b4 18 = _ from if_pos hb]; exact F_move rfl (hfr 4 (by decide +kernel)) trivial (RowR.refl _ _ _ _ _ _)
          · refine RStep.on 17 (b1 && b2 && b3) true (by simp) rfl (by decide +kernel) rfl (fun h => ⟨by simp only [RowV]; rw [if_neg (by simpa using h)], fun _ => (by first | trivial | exact fun e => absurd e (by simpa using h))⟩) (fun hb => ?_); intro a' W hfr hdep hG; have d18 := hdep 18 (by decide +kernel); rw [show RowV g Pn Bn m c a N N4 N6 u A b1 b2 b3 b4 18 = _ from if_pos hb] at d18; have d18 : a'.eval (.tmp 39) = _ := d18; rw [show RowV g Pn Bn m c a N N4 N6 u A b1 b2 b3 b4 19 = _ from if_pos hb]; refine F_call rfl Tryz.func74 rfl (by decide) (args := #[.int .i64 (N : Int)]) (by simp [d18]) (HC.out.2.2.2.2.1 W) ?_; rintro e w' ⟨rfl, rfl⟩; exact ⟨rfl, trivial, (RowR.refl _ _ _ _ _ _)⟩
          · refine RStep.on 17 (b1 && b2 && b3) true (by simp) rfl (by decide +kernel) rfl (fun h => ⟨by simp only [RowV]; rw [if_neg (by simpa using h)], fun _ => (by first | trivial | exact fun e => absurd e (by simpa using h))⟩) (fun hb => ?_); intro a' W hfr hdep hG; rw [show RowV g Pn Bn m c a N N4 N6 u A b1 b2 b3 b4 20 = _ from if_pos hb]; exact F_load rfl (hfr 1 (by decide +kernel)) (load_ptrR (HC.out.2.1 W hG).1) trivial (RowR.refl _ _ _ _ _ _)
          · refine RStep.on 17 (b1 && b2 && b3) true (by simp) rfl (by decide +kernel) rfl (fun h => ⟨by simp only [RowV]; rw [if_neg (by simpa using h)], fun _ => (by first | trivial | exact fun e => absurd e (by simpa using h))⟩) (fun hb => ?_); intro a' W hfr hdep hG; have d20 := hdep 20 (by decide +kernel); rw [show RowV g Pn Bn m c a N N4 N6 u A b1 b2 b3 b4 20 = _ from if_pos hb] at d20; have d20 : a'.eval (.tmp 41) = _ := d20; rw [show RowV g Pn Bn m c a N N4 N6 u A b1 b2 b3 b4 21 = _ from if_pos hb]; refine F_val ?_ trivial (RowR.refl _ _ _ _ _ _); simp only [execOp, d20]; simp [go_sem]
          · refine RStep.on 17 (b1 && b2 && b3) true (by simp) rfl (by decide +kernel) rfl (fun h => ⟨by simp only [RowV]; rw [if_neg (by simpa using h)], fun _ => (by first | trivial | exact fun e => absurd e (by simpa using h))⟩) (fun hb => ?_); intro a' W hfr hdep hG; have d21 := hdep 21 (by decide +kernel); rw [show RowV g Pn Bn m c a N N4 N6 u A b1 b2 b3 b4 21 = _ from if_pos hb] at d21; have d21 : a'.eval (.tmp 42) = _ := d21; rw [show RowV g Pn Bn m c a N N4 N6 u A b1 b2 b3 b4 22 = _ from if_pos hb]; refine F_val ?_ trivial (RowR.refl _ _ _ _ _ _); simp only [execOp, d21]; simp [go_sem]
          · refine RStep.on 17 (b1 && b2 && b3) true (by simp) rfl (by decide +kernel) rfl (fun h => ⟨by simp only [RowV]; rw [if_neg (by simpa using h)], fun _ => (by first | trivial | exact fun e => absurd e (by simpa using h))⟩) (fun hb => ?_); intro a' W hfr hdep hG; have d22 := hdep 22 (by decide +kernel); rw [show RowV g Pn Bn m c a N N4 N6 u A b1 b2 b3 b4 22 = _ from if_pos hb] at d22; have d22 : a'.eval (.tmp 43) = _ := d22; rw [show RowV g Pn Bn m c a N N4 N6 u A b1 b2 b3 b4 23 = _ from if_pos hb]; exact F_load rfl d22 (load_bytesR (HC.out.2.1 W hG).2.2) trivial (RowR.refl _ _ _ _ _ _)
          · refine RStep.on 17 (b1 && b2 && b3) true (by simp) rfl (by decide +kernel) rfl (fun h => ⟨by simp only [RowV]; rw [if_neg (by simpa using h)], fun _ => (by first | trivial | exact fun e => absurd e (by simpa using h))⟩) (fun hb => ?_); intro a' W hfr hdep hG; have d23 := hdep 23 (by decide +kernel); rw [show RowV g Pn Bn m c a N N4 N6 u A b1 b2 b3 b4 23 = _ from if_pos hb] at d23; have d23 : a'.eval (.tmp 44) = _ := d23; rw [show RowV g Pn Bn m c a N N4 N6 u A b1 b2 b3 b4 24 = _ from if_pos hb]; exact F_len rfl d23 trivial (RowR.refl _ _ _ _ _ _)
          · refine RStep.on 17 (b1 && b2 && b3) true (by simp) rfl (by decide +kernel) rfl (fun h => ⟨by simp only [RowV]; rw [if_neg (by simpa using h)], fun _ => (by first | trivial | exact fun e => absurd e (by simpa using h))⟩) (fun hb => ?_); intro a' W hfr hdep hG; rw [show RowV g Pn Bn m c a N N4 N6 u A b1 b2 b3 b4 25 = _ from if_pos hb]; exact F_load rfl (hfr 2 (by decide +kernel)) (load_intR (HC.out.2.1 W hG).2.1) trivial (RowR.refl _ _ _ _ _ _)
          · refine RStep.on 17 (b1 && b2 && b3) true (by simp) rfl (by decide +kernel) rfl (fun h => ⟨by simp only [RowV]; rw [if_neg (by simpa using h)], fun _ => (by first | trivial | exact fun e => absurd e (by simpa using h))⟩) (fun hb => ?_); intro a' W hfr hdep hG; have d24 := hdep 24 (by decide +kernel); rw [show RowV g Pn Bn m c a N N4 N6 u A b1 b2 b3 b4 24 = _ from if_pos hb] at d24; have d24 : a'.eval (.tmp 45) = _ := d24; have d25 := hdep 25 (by decide +kernel); rw [show RowV g Pn Bn m c a N N4 N6 u A b1 b2 b3 b4 25 = _ from if_pos hb] at d25; have d25 : a'.eval (.tmp 46) = _ := d25; rw [show RowV g Pn Bn m c a N N4 N6 u A b1 b2 b3 b4 26 = _ from if_pos hb]; refine F_val ?_ trivial (RowR.refl _ _ _ _ _ _); simp only [execOp, d24, d25]; simp [go_sem]; rw [IntKind.wrap_i64]; omega
          · refine RStep.on 17 (b1 && b2 && b3) true (by simp) rfl (by decide +kernel) rfl (fun h => ⟨by simp only [RowV]; rw [if_neg (by simpa using h)], fun _ => (by first | trivial | exact fun e => absurd e (by simpa using h))⟩) (fun hb => ?_); intro a' W hfr hdep hG; have d19 := hdep 19 (by decide +kernel); rw [show RowV g Pn Bn m c a N N4 N6 u A b1 b2 b3 b4 19 = _ from if_pos hb] at d19; have d19 : a'.eval (.tmp 40) = _ := d19; have d26 := hdep 26 (by decide +kernel); rw [show RowV g Pn Bn m c a N N4 N6 u A b1 b2 b3 b4 26 = _ from if_pos hb] at d26; have d26 : a'.eval (.tmp 47) = _ := d26; rw [show RowV g Pn Bn m c a N N4 N6 u A b1 b2 b3 b4 27 = _ from if_pos hb]; refine F_val ?_ trivial (RowR.refl _ _ _ _ _ _); simp only [execOp, d19, d26]; rw [HC.out.1.2.2.2]; simp [go_sem]
          · refine RStep.run (by simp) rfl ?_; intro a' W hfr hdep hG; have d17 := hdep 17 (by decide +kernel); have d17 : a'.eval (.tmp 38) = _ := d17; have d27 := hdep 27 (by decide +kernel); have d27 : a'.eval (.tmp 48) = _ := d27; exact F_pick rfl d17 (by rw [d27]; exact pick_if (b1 && b2 && b3) b4) trivial (RowR.refl _ _ _ _ _ _)
          · refine RStep.run (by simp) rfl ?_; intro a' W hfr hdep hG; have d0 := hdep 0 (by decide +kernel); have d0 : a'.eval (.tmp 21) = _ := d0; have d28 := hdep 28 (by decide +kernel); have d28 : a'.eval (.tmp 49) = _ := d28; obtain ⟨f, hs, hf1, hf2⟩ := hG; refine F_call rfl Tryz.func52 rfl (by decide) (args := #[.pointer (some ⟨g, 0, none⟩), .bool (b1 && b2 && b3 && b4)]) (by simp [d0, d28, RowV]) (HC.out.2.2.2.2.2.1 f _ W hs) ?_; rintro e w' ⟨rfl, hs'⟩; have hk := RowR.cut hs hf1 hf2 hs' (by intro hr; simp only [Bool.and_eq_true] at hr ⊢; exact ⟨⟨⟨hr.2.1.1.1, hr.2.1.1.2.2⟩, hr.2.1.2.2⟩, hr.2.2⟩); exact ⟨rfl, hk.2, hk.1⟩
          · intro a' W hd hsz hfr hG hJ
            have hdone := RowG.done hG (hJ 7 (by decide)).2 (hJ 14 (by decide)).2 (hJ 29 (by decide)).2
            have hE := Lib.hid (HC.out.2.2.2.2.2.2.1 _ _ hdone HC.out.2.2.2.2.2.2.2.1.symm)
            have e := arr_eta a' 91 hsz hd
            rw [show (List.range 91).map (fun i => a'.eval (.tmp i)) = [a'.eval (.tmp 0), a'.eval (.tmp 1), a'.eval (.tmp 2), a'.eval (.tmp 3), a'.eval (.tmp 4), a'.eval (.tmp 5), a'.eval (.tmp 6), a'.eval (.tmp 7), a'.eval (.tmp 8), a'.eval (.tmp 9), a'.eval (.tmp 10), a'.eval (.tmp 11), a'.eval (.tmp 12), a'.eval (.tmp 13), a'.eval (.tmp 14), a'.eval (.tmp 15), a'.eval (.tmp 16), a'.eval (.tmp 17), a'.eval (.tmp 18), a'.eval (.tmp 19), a'.eval (.tmp 20), a'.eval (.tmp 21), a'.eval (.tmp 22), a'.eval (.tmp 23), a'.eval (.tmp 24), a'.eval (.tmp 25), a'.eval (.tmp 26), a'.eval (.tmp 27), a'.eval (.tmp 28), a'.eval (.tmp 29), a'.eval (.tmp 30), a'.eval (.tmp 31), a'.eval (.tmp 32), a'.eval (.tmp 33), a'.eval (.tmp 34), a'.eval (.tmp 35), a'.eval (.tmp 36), a'.eval (.tmp 37), a'.eval (.tmp 38), a'.eval (.tmp 39), a'.eval (.tmp 40), a'.eval (.tmp 41), a'.eval (.tmp 42), a'.eval (.tmp 43), a'.eval (.tmp 44), a'.eval (.tmp 45), a'.eval (.tmp 46), a'.eval (.tmp 47), a'.eval (.tmp 48), a'.eval (.tmp 49), a'.eval (.tmp 50), a'.eval (.tmp 51), a'.eval (.tmp 52), a'.eval (.tmp 53), a'.eval (.tmp 54), a'.eval (.tmp 55), a'.eval (.tmp 56), a'.eval (.tmp 57), a'.eval (.tmp 58), a'.eval (.tmp 59), a'.eval (.tmp 60), a'.eval (.tmp 61), a'.eval (.tmp 62), a'.eval (.tmp 63), a'.eval (.tmp 64), a'.eval (.tmp 65), a'.eval (.tmp 66), a'.eval (.tmp 67), a'.eval (.tmp 68), a'.eval (.tmp 69), a'.eval (.tmp 70), a'.eval (.tmp 71), a'.eval (.tmp 72), a'.eval (.tmp 73), a'.eval (.tmp 74), a'.eval (.tmp 75), a'.eval (.tmp 76), a'.eval (.tmp 77), a'.eval (.tmp 78), a'.eval (.tmp 79), a'.eval (.tmp 80), a'.eval (.tmp 81), a'.eval (.tmp 82), a'.eval (.tmp 83), a'.eval (.tmp 84), a'.eval (.tmp 85), a'.eval (.tmp 86), a'.eval (.tmp 87), a'.eval (.tmp 88), a'.eval (.tmp 89), a'.eval (.tmp 90)] from rfl] at e
            rw [show a'.eval (.tmp 0) = .func (.yield l) #[] #[] from hfr 0 (by decide +kernel), show a'.eval (.tmp 1) = .pointer (some ⟨Pn, 0, none⟩) from hfr 1 (by decide +kernel), show a'.eval (.tmp 2) = .pointer (some ⟨Bn, 0, none⟩) from hfr 2 (by decide +kernel), show a'.eval (.tmp 3) = undef from hfr 3 (by decide +kernel), show a'.eval (.tmp 4) = .int .i64 (N : Int) from hfr 4 (by decide +kernel)] at e
            generalize a'.eval (.tmp 5) = v5 at e
            generalize a'.eval (.tmp 6) = v6 at e
            generalize a'.eval (.tmp 7) = v7 at e
            generalize a'.eval (.tmp 8) = v8 at e
            generalize a'.eval (.tmp 9) = v9 at e
            generalize a'.eval (.tmp 10) = v10 at e
            generalize a'.eval (.tmp 11) = v11 at e
            generalize a'.eval (.tmp 12) = v12 at e
            generalize a'.eval (.tmp 13) = v13 at e
            generalize a'.eval (.tmp 14) = v14 at e
            generalize a'.eval (.tmp 15) = v15 at e
            generalize a'.eval (.tmp 16) = v16 at e
            generalize a'.eval (.tmp 17) = v17 at e
            generalize a'.eval (.tmp 18) = v18 at e
            generalize a'.eval (.tmp 19) = v19 at e
            generalize a'.eval (.tmp 20) = v20 at e
            generalize a'.eval (.tmp 21) = v21 at e
            generalize a'.eval (.tmp 22) = v22 at e
            generalize a'.eval (.tmp 23) = v23 at e
            generalize a'.eval (.tmp 24) = v24 at e
            generalize a'.eval (.tmp 25) = v25 at e
            generalize a'.eval (.tmp 26) = v26 at e
            generalize a'.eval (.tmp 27) = v27 at e
            generalize a'.eval (.tmp 28) = v28 at e
            generalize a'.eval (.tmp 29) = v29 at e
            generalize a'.eval (.tmp 30) = v30 at e
            generalize a'.eval (.tmp 31) = v31 at e
            generalize a'.eval (.tmp 32) = v32 at e
            generalize a'.eval (.tmp 33) = v33 at e
            generalize a'.eval (.tmp 34) = v34 at e
            generalize a'.eval (.tmp 35) = v35 at e
            generalize a'.eval (.tmp 36) = v36 at e
            generalize a'.eval (.tmp 37) = v37 at e
            generalize a'.eval (.tmp 38) = v38 at e
            generalize a'.eval (.tmp 39) = v39 at e
            generalize a'.eval (.tmp 40) = v40 at e
            generalize a'.eval (.tmp 41) = v41 at e
            generalize a'.eval (.tmp 42) = v42 at e
            generalize a'.eval (.tmp 43) = v43 at e
            generalize a'.eval (.tmp 44) = v44 at e
            generalize a'.eval (.tmp 45) = v45 at e
            generalize a'.eval (.tmp 46) = v46 at e
            generalize a'.eval (.tmp 47) = v47 at e
            generalize a'.eval (.tmp 48) = v48 at e
            generalize a'.eval (.tmp 49) = v49 at e
            generalize a'.eval (.tmp 50) = v50 at e
            generalize a'.eval (.tmp 51) = v51 at e
            generalize a'.eval (.tmp 52) = v52 at e
            generalize a'.eval (.tmp 53) = v53 at e
            generalize a'.eval (.tmp 54) = v54 at e
            generalize a'.eval (.tmp 55) = v55 at e
            generalize a'.eval (.tmp 56) = v56 at e
            generalize a'.eval (.tmp 57) = v57 at e
            generalize a'.eval (.tmp 58) = v58 at e
            generalize a'.eval (.tmp 59) = v59 at e
            generalize a'.eval (.tmp 60) = v60 at e
            generalize a'.eval (.tmp 61) = v61 at e
            generalize a'.eval (.tmp 62) = v62 at e
            generalize a'.eval (.tmp 63) = v63 at e
            generalize a'.eval (.tmp 64) = v64 at e
            generalize a'.eval (.tmp 65) = v65 at e
            generalize a'.eval (.tmp 66) = v66 at e
            generalize a'.eval (.tmp 67) = v67 at e
            generalize a'.eval (.tmp 68) = v68 at e
            generalize a'.eval (.tmp 69) = v69 at e
            generalize a'.eval (.tmp 70) = v70 at e
            generalize a'.eval (.tmp 71) = v71 at e
            generalize a'.eval (.tmp 72) = v72 at e
            generalize a'.eval (.tmp 73) = v73 at e
            generalize a'.eval (.tmp 74) = v74 at e
            generalize a'.eval (.tmp 75) = v75 at e
            generalize a'.eval (.tmp 76) = v76 at e
            generalize a'.eval (.tmp 77) = v77 at e
            generalize a'.eval (.tmp 78) = v78 at e
            generalize a'.eval (.tmp 79) = v79 at e
            generalize a'.eval (.tmp 80) = v80 at e
            generalize a'.eval (.tmp 81) = v81 at e
            generalize a'.eval (.tmp 82) = v82 at e
            generalize a'.eval (.tmp 83) = v83 at e
            generalize a'.eval (.tmp 84) = v84 at e
            generalize a'.eval (.tmp 85) = v85 at e
            generalize a'.eval (.tmp 86) = v86 at e
            generalize a'.eval (.tmp 87) = v87 at e
            generalize a'.eval (.tmp 88) = v88 at e
            generalize a'.eval (.tmp 89) = v89 at e
            generalize a'.eval (.tmp 90) = v90 at e
            rw [e]
            clear hdone hG hJ hfr hsz hd e
            apply_assumption
            go_meet
            exact hE.out
        obtain ⟨w3, hw3e⟩ : ∃ w3, w3 = wc := ⟨_, rfl⟩
        subst hw3e
        obtain ⟨ok, hok⟩ : ∃ ok, Pe.rowOk xs a = ok := ⟨_, rfl⟩
        rw [hok] at hcut
        have q1 : w3.cell? ⟨g, 1, none⟩ = some (.bool ok) := (hcut.1.rd.facts).1 1
        have qP : w3.cell? ⟨Pn, 0, none⟩ = some (.pointer (some ⟨g, 0, none⟩)) := hcut.1.ptr.cell 0
        have qB : w3.cell? ⟨Bn, 0, none⟩ = some (.int .i64 (a : Int)) := hcut.1.at_.cell 0
        have q0 : w3.cell? ⟨g, 0, none⟩ = some (.slice A m c) := (hcut.1.rd.facts).1 0
        have hJ3 : J pre w3 := HK.out.2.1 _ _ _ _ (HK.out.2.1 _ _ _ _ HR.out.2.1 H2.out.1 (fun j e => .inl (by injection e with e; exact e.symm))) hcut.2 (fun j e => .inl (by injection e with e; exact e.symm))
        have H3 := Lib.hid (And.intro hcut (And.intro hJ3 hok))
        clear hcut hok hJ3
        apply_assumption
        cases ok
        · gi_wp2
          refine bodyPost_ret (results_none rfl _ _ _) rfl ?_
          have e : Pe.rows xs a0 = none := by rw [(HR.out.2.2.1 (by first | rfl | trivial)).2, Pe.rows_bad (by omega) (by rw [H3.out.2.2]; rfl)]; rfl
          exact ⟨⟨_, rfl⟩, pre, a, H3.out.2.1, by rw [e, Option.isSome_none, Bool.and_false]; exact H3.out.1.1, fun L _ hL => by rw [e] at hL; cases hL⟩
        · gi_wp2_with fail
          refine wpIn_wide.2 ?_
          go_cut [] from 5 to 90 (fun wx => RW g Pn Bn (.slice A m c) (Pe.fillOk xs a) a wx ∧ w3.grownBy wx (some g))
          case first =>
            have hp := Pe.rowOk_parts H3.out.2.2
            rw [HA.out.2.2] at hp
            have hfo : Pe.fillOk xs a = noughts ((xs.take (a + Pe.up N)).drop (a + N)) := by
              unfold Pe.fillOk noughts
              rw [HA.out.2.2, List.drop_take, Nat.add_sub_add_left]
            obtain ⟨u, hu⟩ : ∃ u, Pe.up N = u := ⟨_, rfl⟩
            have hun : ∀ W : World, Calls Tryz.prog 74 #[.int .i64 (N : Int)] W fun e w' => e = .returned (.int .i64 (u : Int)) ∧ w' = W := fun W => by rw [← hu]; exact up_any N W (by omega)
            rw [hu] at hp hfo
            have hrd3 : Rd w3 g A m c xs := rd_grown H2.out.2.2 H3.out.1.2 (Nat.le_refl _) H2.out.2.1.rd.lt
            have hgl3 : g < w3.heap.size := H3.out.1.1.rd.lt
            have hN8 : N ≤ u := hp.2.2.1
            have hua : a + u ≤ m := by have := hp.2.1; omega
            obtain ⟨A1, hr1, hsl2, hsl⟩ := run_cut hrd3 (a + N) (a + u) ((a : Int) + N) ((a : Int) + u) (by omega) (by omega) (by omega) hua
            obtain ⟨zs, hzs⟩ : ∃ zs, (xs.take (a + u)).drop (a + N) = zs := ⟨_, rfl⟩
            rw [hzs] at hr1 hfo
            have hcap := hrd3.cap
            have i1 : (a : Int) + N ≤ (a : Int) + u := by omega
            have i2 : (a : Int) + u ≤ (c : Int) := by omega
            have i3 : (0 : Int) ≤ (a : Int) + N := by omega
            have i4 : IntKind.i64.wrap ((a : Int) + N) = (a : Int) + N := by rw [IntKind.wrap_i64]; omega
            have i5 : IntKind.i64.wrap ((a : Int) + u) = (a : Int) + u := by rw [IntKind.wrap_i64]; omega
            obtain ⟨n1, hn1⟩ : ∃ n1, a + u - (a + N) = n1 := ⟨_, rfl⟩
            obtain ⟨c1, hc1⟩ : ∃ c1, c - (a + N) = c1 := ⟨_, rfl⟩
            rw [hn1, hc1] at hr1 hsl hsl2
            have htr := trim_any A1 n1 c1 zs w3.drew ((hr1.more (by show g ≤ w3.heap.size; omega)).drew)
            have HT := Lib.hid (And.intro htr (And.intro hun hfo))
            clear htr hun hfo hrd3 hr1 hzs hn1 hc1 hu hp q1
            go_region_held3 (fun w' => w'.cell? ⟨Pn, 0, none⟩ = some (.pointer (some ⟨g, 0, none⟩)) ∧ w'.cell? ⟨Bn, 0, none⟩ = some (.int .i64 (a : Int)) ∧ w'.cell? ⟨g, 0, none⟩ = some (.slice A m c)) (go_keep)
              (first
                | (go_at_call 74; ((with_reducible refine (HT.out.2.1 _).mono ?_); rintro e w4 ⟨rfl, rfl⟩))
                | (go_at_call 75; ((with_reducible refine HT.out.1.mono ?_); rintro e w5 ⟨A5, n5, c5, rfl, hn5, hb5⟩); have h5 := H3.out.1.1.below (W' := w5) (by exact (below_drewN (Below.refl _ _) 1).trans hb5); have k50 : w5.cell? ⟨Pn, 0, none⟩ = some (.pointer (some ⟨g, 0, none⟩)) := h5.ptr.cell 0; have k51 : w5.cell? ⟨Bn, 0, none⟩ = some (.int .i64 (a : Int)) := h5.at_.cell 0; have k52 : w5.cell? ⟨g, 0, none⟩ = some (.slice A m c) := (h5.rd.facts).1 0; have H5 := Lib.hid (And.intro h5 (And.intro hn5 hb5)); clear h5 hn5 hb5)
                | (go_at_call 52; ((with_reducible refine (must_any g (.slice A m c) true _ _ (by exact H5.out.1.rd) ⟨_, _, _, rfl⟩).mono ?_); rintro e w6 ⟨rfl, hS6⟩); have HS6 := Lib.hid hS6; clear hS6; have k60 : w6.cell? ⟨Pn, 0, none⟩ = some (.pointer (some ⟨g, 0, none⟩)) := (H5.out.1.stp HS6.out).ptr.cell 0; have k61 : w6.cell? ⟨Bn, 0, none⟩ = some (.int .i64 (a : Int)) := (H5.out.1.stp HS6.out).at_.cell 0; have k62 : w6.cell? ⟨g, 0, none⟩ = some (.slice A m c) := (HS6.out.blk.facts).1 0))
            have e5 : (true && ((n5 : Int) == 0)) = Pe.fillOk xs a := by rw [HT.out.2.2, ← H5.out.2.1, Bool.true_and, show (0 : Int) = ((0 : Nat) : Int) from rfl, int_beq, beq_dec]
            have hfin : RW g Pn Bn (.slice A m c) (Pe.fillOk xs a) a w6 ∧ w3.grownBy w6 (some g) := ⟨by rw [← e5]; exact H5.out.1.stp HS6.out, grown_on (r := some g) (grownBy_of_below ((below_drewN (Below.refl w3.heap.size w3) 1).trans H5.out.2.2)) HS6.out.grown (fun j e => .inr (by injection e with e; exact e.symm))⟩
            first | go_meet | (apply_assumption; go_meet)
            exact hfin
          obtain ⟨w4, hw4e⟩ : ∃ w4, w4 = wc := ⟨_, rfl⟩
          subst hw4e
          have H4 := Lib.hid (And.intro hcut (HK.out.2.1 _ _ _ _ H3.out.2.1 hcut.2 (fun j e => .inl (by injection e with e; exact e.symm))))
          clear hcut
          apply_assumption
          gi_wp2_with fail
          have hp := Pe.rowOk_parts H3.out.2.2
          rw [HA.out.2.2] at hp
          have hrd4 : Rd w4 g A m c xs := rd_grown (rd_grown H2.out.2.2 H3.out.1.2 (Nat.le_refl _) H2.out.2.1.rd.lt) H4.out.1.2 (Nat.le_refl _) H3.out.1.1.rd.lt
          have hg4 : g < w4.heap.size := H4.out.1.1.rd.lt
          have hNm : a + N ≤ m := by have := hp.2.1; omega
          obtain ⟨A1, hr1, hsl2, hsl⟩ := run_cut hrd4 (a + 8) (a + N) ((a : Int) + 8) ((a : Int) + N) (by omega) (by omega) (by omega) hNm
          have hzs : (xs.take (a + N)).drop (a + 8) = Pe.blob xs a := by
            unfold Pe.blob
            rw [HA.out.2.2, List.drop_take, Nat.add_sub_add_left]
          rw [hzs] at hr1
          obtain ⟨zs, hze⟩ : ∃ zs, Pe.blob xs a = zs := ⟨_, rfl⟩
          rw [hze] at hr1
          obtain ⟨n1, hn1⟩ : ∃ n1, a + N - (a + 8) = n1 := ⟨_, rfl⟩
          obtain ⟨c1, hc1⟩ : ∃ c1, c - (a + 8) = c1 := ⟨_, rfl⟩
          rw [hn1, hc1] at hr1 hsl hsl2
          have hn1m : n1 ≤ 16777216 := by omega
          have hc4 : ∀ W, Below w4.heap.size w4 W → W.cell? ⟨Pn, 0, none⟩ = some (.pointer (some ⟨g, 0, none⟩)) ∧ W.cell? ⟨Bn, 0, none⟩ = some (.int .i64 (a : Int)) ∧ W.cell? ⟨g, 0, none⟩ = some (.slice A m c) := fun W hb => ⟨(H4.out.1.1.below hb).ptr.cell 0, (H4.out.1.1.below hb).at_.cell 0, ((H4.out.1.1.below hb).rd.facts).1 0⟩
          have HL := Lib.hid (And.intro hc4 (And.intro (And.intro hsl hsl2) (And.intro (fun (W : World) (hb : Below w4.heap.size w4 W) => (hr1.more (Nat.le_of_lt hg4)).up hb) hze)))
          clear hc4 hsl hsl2 hr1 hzs hze hrd4 hn1 hc1 hp
          refine wpIn_region_tail 12 (YldJ l g m c a N n1 c1 w4.heap.size A A1 zs) (Below w4.heap.size w4) (fun w w' => Below w.heap.size w w') rfl YldJ.mono (fun w w' h1 h2 => h1.trans (h2.mono h1.size)) (by show dstsOk _ 91 = true; decide +kernel) (by decide +kernel) (by decide +kernel) rfl (by decide +kernel) (by decide +kernel) (Below.refl _ _).drew ⟨?_, ?_, ?_, ?_, ?_, ?_, ?_, ?_, ?_, ?_, ?_, ?_, trivial⟩ ?_
          · intro a' W hfr hG hdep; refine operIn_wide (J_of (by simp) (fun _ => rfl) ?_); exact F_move rfl (hfr 0 (by decide +kernel)) trivial (Below.refl _ _)
          · intro a' W hfr hG hdep; refine operIn_wide (J_of (by simp) (fun _ => rfl) ?_); exact F_load rfl (hfr 1 (by decide +kernel)) (load_ptrR (HL.out.1 W hG).1) trivial (Below.refl _ _)
          · intro a' W hfr hG hdep; refine operIn_wide (J_of (by simp) (fun _ => rfl) ?_); have d1 : a'.eval (.tmp 74) = .pointer (some ⟨g, 0, none⟩) := hdep 1 (by decide +kernel); refine F_val ?_ trivial (Below.refl _ _); simp only [execOp, d1]; simp [go_sem]
          · intro a' W hfr hG hdep; refine operIn_wide (J_of (by simp) (fun _ => rfl) ?_); have d2 : a'.eval (.tmp 75) = .pointer (some ⟨g, 0, none⟩) := hdep 2 (by decide +kernel); refine F_val ?_ trivial (Below.refl _ _); simp only [execOp, d2]; simp [go_sem]
          · intro a' W hfr hG hdep; refine operIn_wide (J_of (by simp) (fun _ => rfl) ?_); have d3 : a'.eval (.tmp 76) = .pointer (some ⟨g, 0, none⟩) := hdep 3 (by decide +kernel); exact F_load rfl d3 (load_bytesR (HL.out.1 W hG).2.2) trivial (Below.refl _ _)
          · intro a' W hfr hG hdep; refine operIn_wide (J_of (by simp) (fun _ => rfl) ?_); exact F_load rfl (hfr 2 (by decide +kernel)) (load_intR (HL.out.1 W hG).2.1) trivial (Below.refl _ _)
          · intro a' W hfr hG hdep; refine operIn_wide (J_of (by simp) (fun _ => rfl) ?_); have d5 : a'.eval (.tmp 78) = .int .i64 (a : Int) := hdep 5 (by decide +kernel); refine F_val ?_ trivial (Below.refl _ _); simp only [execOp, d5]; simp [go_sem, Act.eval]; rw [IntKind.wrap_i64]; omega
          · intro a' W hfr hG hdep; refine operIn_wide (J_of (by simp) (fun _ => rfl) ?_); exact F_load rfl (hfr 2 (by decide +kernel)) (load_intR (HL.out.1 W hG).2.1) trivial (Below.refl _ _)
          · intro a' W hfr hG hdep; refine operIn_wide (J_of (by simp) (fun _ => rfl) ?_); exact F_move rfl (hfr 4 (by decide +kernel)) trivial (Below.refl _ _)
          · intro a' W hfr hG hdep; refine operIn_wide (J_of (by simp) (fun _ => rfl) ?_); have d7 : a'.eval (.tmp 80) = .int .i64 (a : Int) := hdep 7 (by decide +kernel); have d8 : a'.eval (.tmp 81) = .int .i64 (N : Int) := hdep 8 (by decide +kernel); refine F_val ?_ trivial (Below.refl _ _); simp only [execOp, d7, d8]; simp [go_sem]; rw [IntKind.wrap_i64]; omega
          · intro a' W hfr hG hdep; refine operIn_wide (J_of (by simp) (fun _ => rfl) ?_); have d4 : a'.eval (.tmp 77) = .slice A m c := hdep 4 (by decide +kernel); have d6 : a'.eval (.tmp 79) = .int .i64 ((a : Int) + 8) := hdep 6 (by decide +kernel); have d9 : a'.eval (.tmp 82) = .int .i64 ((a : Int) + N) := hdep 9 (by decide +kernel); refine F_val ?_ trivial (Below.refl _ _); simp only [execOp, d4, d6, d9, Option.map_some, Option.map_none]; simp [HL.out.2.1.1, HL.out.2.1.2]
          · intro a' W hfr hG hdep; have d10 : a'.eval (.tmp 83) = .slice A1 n1 c1 := hdep 10 (by decide +kernel); refine operIn_wide (J_call (by simp) rfl Tryz.func35 rfl (by decide) (args := #[.slice A1 n1 c1]) (by simp [d10]) (clone_any A1 n1 c1 zs W (HL.out.2.2.1 W hG) (by omega)) ?_); rintro e w' ⟨A9, n9, c9, rfl, ho, hb⟩; exact ⟨_, rfl, ho.mono hG.size (Nat.le_refl _), hb⟩
          · intro o1 o2 h1 h2 a' W hd hsz hfr hG hJ
            have e1 : o1.op = .call { callee := .value (.tmp 73), args := #[.tmp 84], argTypes := #[22] } ∧ o1.dst = some 85 := by cases h1; exact ⟨rfl, rfl⟩
            have e2 : o2.op = .unOp .not 4 (.tmp 85) ∧ o2.dst = some 86 := by cases h2; exact ⟨rfl, rfl⟩
            clear h1 h2
            have hj0 : a'.eval (.tmp 73) = .func (.yield l) #[] #[] := hJ 0 (by decide)
            have hj11 : OwnB W w4.heap.size W.heap.size (a'.eval (.tmp 84)) zs := hJ 11 (by decide)
            obtain ⟨v, hv⟩ : ∃ v, a'.eval (.tmp 84) = v := ⟨_, rfl⟩
            rw [hv] at hj11
            have hpl : pre.length < m := by
              have h16 := HR.out.2.2.2.2 (by first | rfl | trivial)
              omega
            have hyy := HK.out.2.2.2 pre v zs w4 W H4.out.2 hpl hG hj11
            refine wpIn_yield (x := .tmp 73) (y := .tmp 84) (u := .bool true) (l := l) (v := v) e1.1 hj0 hv hn ?_
            refine hyy.mono ?_
            rintro e W6 ⟨rfl, hJ6, hs6⟩
            refine ⟨rfl, ?_⟩
            have h6 : RW g Pn Bn (.slice A m c) (Pe.fillOk xs a) a W6 := by
              have hB := H4.out.1.1.below hG
              exact ⟨(hs6 g (.inl rfl)).trans hB.rd, (hs6 Pn (.inr (.inl rfl))).trans hB.ptr, (hs6 Bn (.inr (.inr rfl))).trans hB.at_, hB.gP, hB.PB⟩
            have H6 := Lib.hid (And.intro h6 hJ6)
            have h85 : (a'.put o1.dst (.bool true)).eval (.tmp 85) = .bool true := by rw [e1.2]; exact Act.eval_put_same _ _ _ (by rw [hsz]; show 85 < 91; omega)
            refine operIn_wide (K_not e2.1 h85 ?_)
            rw [e1.2, e2.2]
            have e := arr_eta a' 91 hsz hd
            rw [show (List.range 91).map (fun i => a'.eval (.tmp i)) = [a'.eval (.tmp 0), a'.eval (.tmp 1), a'.eval (.tmp 2), a'.eval (.tmp 3), a'.eval (.tmp 4), a'.eval (.tmp 5), a'.eval (.tmp 6), a'.eval (.tmp 7), a'.eval (.tmp 8), a'.eval (.tmp 9), a'.eval (.tmp 10), a'.eval (.tmp 11), a'.eval (.tmp 12), a'.eval (.tmp 13), a'.eval (.tmp 14), a'.eval (.tmp 15), a'.eval (.tmp 16), a'.eval (.tmp 17), a'.eval (.tmp 18), a'.eval (.tmp 19), a'.eval (.tmp 20), a'.eval (.tmp 21), a'.eval (.tmp 22), a'.eval (.tmp 23), a'.eval (.tmp 24), a'.eval (.tmp 25), a'.eval (.tmp 26), a'.eval (.tmp 27), a'.eval (.tmp 28), a'.eval (.tmp 29), a'.eval (.tmp 30), a'.eval (.tmp 31), a'.eval (.tmp 32), a'.eval (.tmp 33), a'.eval (.tmp 34), a'.eval (.tmp 35), a'.eval (.tmp 36), a'.eval (.tmp 37), a'.eval (.tmp 38), a'.eval (.tmp 39), a'.eval (.tmp 40), a'.eval (.tmp 41), a'.eval (.tmp 42), a'.eval (.tmp 43), a'.eval (.tmp 44), a'.eval (.tmp 45), a'.eval (.tmp 46), a'.eval (.tmp 47), a'.eval (.tmp 48), a'.eval (.tmp 49), a'.eval (.tmp 50), a'.eval (.tmp 51), a'.eval (.tmp 52), a'.eval (.tmp 53), a'.eval (.tmp 54), a'.eval (.tmp 55), a'.eval (.tmp 56), a'.eval (.tmp 57), a'.eval (.tmp 58), a'.eval (.tmp 59), a'.eval (.tmp 60), a'.eval (.tmp 61), a'.eval (.tmp 62), a'.eval (.tmp 63), a'.eval (.tmp 64), a'.eval (.tmp 65), a'.eval (.tmp 66), a'.eval (.tmp 67), a'.eval (.tmp 68), a'.eval (.tmp 69), a'.eval (.tmp 70), a'.eval (.tmp 71), a'.eval (.tmp 72), a'.eval (.tmp 73), a'.eval (.tmp 74), a'.eval (.tmp 75), a'.eval (.tmp 76), a'.eval (.tmp 77), a'.eval (.tmp 78), a'.eval (.tmp 79), a'.eval (.tmp 80), a'.eval (.tmp 81), a'.eval (.tmp 82), a'.eval (.tmp 83), a'.eval (.tmp 84), a'.eval (.tmp 85), a'.eval (.tmp 86), a'.eval (.tmp 87), a'.eval (.tmp 88), a'.eval (.tmp 89), a'.eval (.tmp 90)] from rfl] at e
            rw [show a'.eval (.tmp 0) = .func (.yield l) #[] #[] from hfr 0 (by decide +kernel), show a'.eval (.tmp 1) = .pointer (some ⟨Pn, 0, none⟩) from hfr 1 (by decide +kernel), show a'.eval (.tmp 2) = .pointer (some ⟨Bn, 0, none⟩) from hfr 2 (by decide +kernel), show a'.eval (.tmp 3) = undef from hfr 3 (by decide +kernel), show a'.eval (.tmp 4) = .int .i64 (N : Int) from hfr 4 (by decide +kernel)] at e
            generalize a'.eval (.tmp 5) = v5 at e
            generalize a'.eval (.tmp 6) = v6 at e
            generalize a'.eval (.tmp 7) = v7 at e
            generalize a'.eval (.tmp 8) = v8 at e
            generalize a'.eval (.tmp 9) = v9 at e
            generalize a'.eval (.tmp 10) = v10 at e
            generalize a'.eval (.tmp 11) = v11 at e
            generalize a'.eval (.tmp 12) = v12 at e
            generalize a'.eval (.tmp 13) = v13 at e
            generalize a'.eval (.tmp 14) = v14 at e
            generalize a'.eval (.tmp 15) = v15 at e
            generalize a'.eval (.tmp 16) = v16 at e
            generalize a'.eval (.tmp 17) = v17 at e
            generalize a'.eval (.tmp 18) = v18 at e
            generalize a'.eval (.tmp 19) = v19 at e
            generalize a'.eval (.tmp 20) = v20 at e
            generalize a'.eval (.tmp 21) = v21 at e
            generalize a'.eval (.tmp 22) = v22 at e
            generalize a'.eval (.tmp 23) = v23 at e
            generalize a'.eval (.tmp 24) = v24 at e
            generalize a'.eval (.tmp 25) = v25 at e
            generalize a'.eval (.tmp 26) = v26 at e
            generalize a'.eval (.tmp 27) = v27 at e
            generalize a'.eval (.tmp 28) = v28 at e
            generalize a'.eval (.tmp 29) = v29 at e
            generalize a'.eval (.tmp 30) = v30 at e
            generalize a'.eval (.tmp 31) = v31 at e
            generalize a'.eval (.tmp 32) = v32 at e
            generalize a'.eval (.tmp 33) = v33 at e
            generalize a'.eval (.tmp 34) = v34 at e
            generalize a'.eval (.tmp 35) = v35 at e
            generalize a'.eval (.tmp 36) = v36 at e
            generalize a'.eval (.tmp 37) = v37 at e
            generalize a'.eval (.tmp 38) = v38 at e
            generalize a'.eval (.tmp 39) = v39 at e
            generalize a'.eval (.tmp 40) = v40 at e
            generalize a'.eval (.tmp 41) = v41 at e
            generalize a'.eval (.tmp 42) = v42 at e
            generalize a'.eval (.tmp 43) = v43 at e
            generalize a'.eval (.tmp 44) = v44 at e
            generalize a'.eval (.tmp 45) = v45 at e
            generalize a'.eval (.tmp 46) = v46 at e
            generalize a'.eval (.tmp 47) = v47 at e
            generalize a'.eval (.tmp 48) = v48 at e
            generalize a'.eval (.tmp 49) = v49 at e
            generalize a'.eval (.tmp 50) = v50 at e
            generalize a'.eval (.tmp 51) = v51 at e
            generalize a'.eval (.tmp 52) = v52 at e
            generalize a'.eval (.tmp 53) = v53 at e
            generalize a'.eval (.tmp 54) = v54 at e
            generalize a'.eval (.tmp 55) = v55 at e
            generalize a'.eval (.tmp 56) = v56 at e
            generalize a'.eval (.tmp 57) = v57 at e
            generalize a'.eval (.tmp 58) = v58 at e
            generalize a'.eval (.tmp 59) = v59 at e
            generalize a'.eval (.tmp 60) = v60 at e
            generalize a'.eval (.tmp 61) = v61 at e
            generalize a'.eval (.tmp 62) = v62 at e
            generalize a'.eval (.tmp 63) = v63 at e
            generalize a'.eval (.tmp 64) = v64 at e
            generalize a'.eval (.tmp 65) = v65 at e
            generalize a'.eval (.tmp 66) = v66 at e
            generalize a'.eval (.tmp 67) = v67 at e
            generalize a'.eval (.tmp 68) = v68 at e
            generalize a'.eval (.tmp 69) = v69 at e
            generalize a'.eval (.tmp 70) = v70 at e
            generalize a'.eval (.tmp 71) = v71 at e
            generalize a'.eval (.tmp 72) = v72 at e
            generalize a'.eval (.tmp 73) = v73 at e
            generalize a'.eval (.tmp 74) = v74 at e
            generalize a'.eval (.tmp 75) = v75 at e
            generalize a'.eval (.tmp 76) = v76 at e
            generalize a'.eval (.tmp 77) = v77 at e
            generalize a'.eval (.tmp 78) = v78 at e
            generalize a'.eval (.tmp 79) = v79 at e
            generalize a'.eval (.tmp 80) = v80 at e
            generalize a'.eval (.tmp 81) = v81 at e
            generalize a'.eval (.tmp 82) = v82 at e
            generalize a'.eval (.tmp 83) = v83 at e
            generalize a'.eval (.tmp 84) = v84 at e
            generalize a'.eval (.tmp 85) = v85 at e
            generalize a'.eval (.tmp 86) = v86 at e
            generalize a'.eval (.tmp 87) = v87 at e
            generalize a'.eval (.tmp 88) = v88 at e
            generalize a'.eval (.tmp 89) = v89 at e
            generalize a'.eval (.tmp 90) = v90 at e
            rw [e]
            simp only [Act.put, List.setIfInBounds_toArray, List.set_cons_zero, List.set_cons_succ]
            have qP6 : W6.cell? ⟨Pn, 0, none⟩ = some (.pointer (some ⟨g, 0, none⟩)) := h6.ptr.cell 0
            have qB6 : W6.cell? ⟨Bn, 0, none⟩ = some (.int .i64 (a : Int)) := h6.at_.cell 0
            have qf6 : W6.frozen? ⟨Bn, 0, none⟩ = false := h6.at_.frozen 0
            clear h6 hJ6 hs6 hj0 hj11 hv hJ hfr hG hsz hd h85 e e1 e2 qP qB q0
            have hp6 := Pe.rowOk_parts H3.out.2.2
            rw [HA.out.2.2] at hp6
            obtain ⟨u, hu⟩ : ∃ u, Pe.up N = u := ⟨_, rfl⟩
            have hun : ∀ W : World, Calls Tryz.prog 74 #[.int .i64 (N : Int)] W fun e w' => e = .returned (.int .i64 (u : Int)) ∧ w' = W := fun W => by rw [← hu]; exact up_any N W (by omega)
            rw [hu] at hp6
            have hua : a + u ≤ m := by have := hp6.2.1; omega
            have hu16 : 16 ≤ u := hp6.2.2.2
            have i5 : IntKind.i64.wrap ((a : Int) + u) = (a : Int) + u := by rw [IntKind.wrap_i64]; omega
            have HU := Lib.hid (And.intro hun hu)
            clear hun hu hp6 hyy
            apply_assumption
            gi_wp2_with fail
            refine wpIn_wide.2 ?_
            go_region_with (go_at_call 74; (with_reducible refine (HU.out.1 _).mono ?_); rintro e w7 ⟨rfl, rfl⟩)
            all_goals (
              have HF : Hid (RW g Pn Bn (.slice A m c) (Pe.fillOk xs a) (a + u) (W6.setCell ⟨Bn, 0, none⟩ (.int .i64 ((a : Int) + u))).drew ∧ J (pre ++ [(v, zs)]) (W6.setCell ⟨Bn, 0, none⟩ (.int .i64 ((a : Int) + u))).drew) := by
                refine Lib.hid ⟨?_, HK.out.2.1.below (HK.out.2.1 _ _ _ (some Bn) H6.out.2 (grownBy_set W6 ⟨Bn, 0, none⟩ _) (fun j e => .inr (by injection e with e; exact e.symm))) (Below.refl _ _).drew⟩
                have h := H6.out.1
                have h1 := h.gP
                have h2 := h.PB
                exact ⟨(h.rd.far (by show g ≠ Bn; omega) _).drew, (h.ptr.far (by show Pn ≠ Bn; omega) _).drew, (h.at_.set_ 0 _).drew, h1, h2⟩
              go_roundw
              case rel =>
                (repeat apply Exists.intro)
                refine ⟨?_, rfl⟩
                refine ⟨pre ++ [(v, zs)], a + u, Pe.fillOk xs a, HF.out.1, HF.out.2, fun hf => ⟨⟨by omega, (HR.out.2.2.1 (by first | rfl | trivial)).1.2⟩, ?_⟩, fun hf => ?_, fun hf => ?_⟩
                · rw [(HR.out.2.2.1 (by first | rfl | trivial)).2, Pe.rows_good (by omega) (by rw [H3.out.2.2, hf]; rfl), HA.out.2.2, HU.out.2, HL.out.2.2.2, Option.map_map]
                  congr 1
                  funext L
                  simp
                · rw [(HR.out.2.2.1 (by first | rfl | trivial)).2, Pe.rows_bad (by omega) (by rw [H3.out.2.2, hf]; rfl)]; simp
                · have h16 := HR.out.2.2.2.2 (by first | rfl | trivial)
                  rw [List.length_append, List.length_singleton]
                  omega
              case measure =>
                have k1 := (HF.out.1.rd.facts).1 1
                have k2 := HF.out.1.at_.cell 0
                have j1 := (HR.out.1.rd.facts).1 1
                have j2 := HR.out.1.at_.cell 0
                simp only [List.getElem?_toArray, List.getElem?_cons_succ, List.getElem?_cons_zero] at k1 k2 j1 j2
                simp only [k1, k2, j1, j2]
                cases Pe.fillOk xs a <;> simp <;> omega)
      · have ha' : ¬ (a : Int) < m := by omega
        gi_wp2
        refine wpIn_wide.2 ?_
        go_quiet (fail)
        gi_wp2
        go_end0
        have hb := below_drewN (Below.refl wr.heap.size wr) nq
        have e : Pe.rows xs a0 = some (pre.map (·.2)) := by rw [(HR.out.2.2.1 (by first | rfl | trivial)).2, Pe.rows_end (by omega)]; simp
        exact ⟨⟨_, rfl⟩, pre, a, HK.out.2.1.below HR.out.2.1 hb, by rw [e, Option.isSome_some, Bool.and_true, (HR.out.2.2.1 (by first | rfl | trivial)).1.2]; exact HR.out.1.below hb, fun L _ hL => by rw [e] at hL; injection hL⟩
end Go.Proofs.YtmpladnglfiejaaGreatDoor
