/- Joined of: PeWrite2 PeWorks2. -/
import Derived.Test.YtmpladnglfiejaaGreatDoorPD
import Derived.Test.YtmpladnglfiejaaGreatDoorPG
import Derived.Test.YtmpladnglfiejaaGreatDoorPJ
import Derived.Test.YtmpladnglfiejaaGreatDoorPeTop
section
/- The contract of lintelref16.Write: the walk. -/
namespace Go.Proofs.YtmpladnglfiejaaGreatDoor
open Go.RowKit
set_option maxRecDepth 100000
set_option linter.unusedVariables false
set_option linter.unusedSimpArgs false

theorem dos_eq : ((List.replicate 64 (0 : UInt8)).set 0 77).set 1 90 = 77 :: 90 :: List.replicate 62 0 := by decide
/-- What the fields of a shape hold, wherever the walk is. -/
def ShAt (W0 : World) (X : Nat) (V : ShV) (pl : Bool) (v1 v2 v3 v4 v5 v6 : Value) : Prop := ∀ wr, Below W0.heap.size W0 wr → wr.cell? ⟨X, 0, none⟩ = some (.bool pl) ∧ wr.cell? ⟨X, 1, none⟩ = some v1 ∧ wr.cell? ⟨X, 2, none⟩ = some v2 ∧ wr.cell? ⟨X, 3, none⟩ = some v3 ∧ wr.cell? ⟨X, 4, none⟩ = some v4 ∧ wr.cell? ⟨X, 5, none⟩ = some v5 ∧ wr.cell? ⟨X, 6, none⟩ = some v6 ∧ Bs wr X V
set_option maxHeartbeats 4000000 in
theorem write_any (V : ShV) (s : Pe.Shape) (w : World) (h : ShRd w w.heap.size V s) (ok : s.Ok) (hor : s.order.length ≤ 1000) :
    Calls Tryz.prog 15 #[.agg V.cells] w (RetOwn (Pe.write s) w) := by
  obtain ⟨A1, n1, c1, e1, hr1⟩ := h.stub
  obtain ⟨A2, n2, c2, e2, hr2⟩ := h.fill
  obtain ⟨A3, n3, c3, l3, e3, hr3, hl3⟩ := h.bodies
  obtain ⟨A5, n5, c5, e5, hr5⟩ := h.behind
  obtain ⟨A6, n6, c6, l6, e6, hr6, hl6⟩ := h.sigs
  have hplus := h.plus
  have g1 := hr1.len
  have g2 := hr2.len
  have g3 : s.bodies.length = n3 := by rw [← hl3, List.length_map]; exact hr3.len
  have g5 := hr5.len
  have g6 : s.sigs.length = n6 := by rw [← hl6, List.length_map]; exact hr6.len
  have b1 := ok.stub
  have b2 := ok.fill
  have b3 := ok.ten
  have b3' := ok.one
  have b5 := ok.behind
  have b6 := ok.sigs
  rw [g1] at b1
  rw [g2] at b2
  rw [g3] at b3 b3'
  rw [g5] at b5
  rw [g6] at b6
  obtain ⟨W0, hW0⟩ : ∃ W0, w.alloc (.cells V.cells 45) = W0 := ⟨_, rfl⟩
  have hsz0 : W0.heap.size = w.heap.size + 1 := by rw [← hW0]; simp
  have hbw0 : Below w.heap.size w W0 := by rw [← hW0]; exact (Below.refl _ _).alloc (Nat.le_refl _) _
  obtain ⟨pl, hpl⟩ : ∃ pl, V.plus = pl := ⟨_, rfl⟩
  have hB0 : Bs W0 w.heap.size V := by rw [← hW0]; exact Blk.new _ _ _
  have hAt : ShAt W0 w.heap.size V pl (.slice A1 n1 c1) (.slice A2 n2 c2) (.slice A3 n3 c3) V.order (.slice A5 n5 c5) (.slice A6 n6 c6) := fun wr hb => by
    have hB : Bs wr w.heap.size V := hB0.below hb (by omega)
    refine ⟨?_, ?_, ?_, ?_, hB.cell 4, ?_, ?_, hB⟩
    · rw [← hpl]; exact hB.cell 0
    · rw [← e1]; exact hB.cell 1
    · rw [← e2]; exact hB.cell 2
    · rw [← e3]; exact hB.cell 3
    · rw [← e5]; exact hB.cell 5
    · rw [← e6]; exact hB.cell 6
  have hsh : ∀ wr, Below W0.heap.size W0 wr → ShRd wr w.heap.size V s := fun wr hb => (h.below hbw0).below (hb.mono (by omega))
  have hrd : ∀ wr, Below W0.heap.size W0 wr → Rd wr w.heap.size A1 n1 c1 s.stub ∧ Rd wr w.heap.size A2 n2 c2 s.fill ∧ RdL wr w.heap.size A3 n3 c3 l3 ∧ Rd wr w.heap.size A5 n5 c5 s.behind ∧ RdL wr w.heap.size A6 n6 c6 l6 := fun wr hb => by
    have hb' : Below w.heap.size w wr := hbw0.trans (hb.mono (by omega))
    exact ⟨hr1.below hb', hr2.below hb', hr3.below hb', hr5.below hb', hr6.below hb'⟩
  have HRD := Lib.hid hrd
  have H := Lib.hid (And.intro hAt (And.intro hsh (And.intro hbw0 (And.intro ok (And.intro (hplus.symm.trans hpl) (And.intro (And.intro g1 (And.intro g2 (And.intro g3 (And.intro g5 g6)))) (And.intro hr1 (And.intro hr2 (And.intro hr3 (And.intro hr5 (And.intro hr6 (And.intro hl3 hl6))))))))))))
  have hX : w.heap.size < W0.heap.size := by omega
  have HW0 := Lib.hid hW0
  clear hrd hsz0 h hr1 hr2 hr3 hr5 hr6 hl3 hl6 hplus g1 g2 g3 g5 g6 e1 e2 e3 e5 e6 hpl hB0 hAt hsh hbw0 ok
  have q0 := (H.out.1 W0 (Below.refl _ _)).1
  have q1 := (H.out.1 W0 (Below.refl _ _)).2.1
  have q2 := (H.out.1 W0 (Below.refl _ _)).2.2.1
  have q3 := (H.out.1 W0 (Below.refl _ _)).2.2.2.1
  go_enter Tryz.func15, Tryz.ntmps15
  go_upto_region 2 with fail
  clear hW0
  go_cut [4] from 14 (fun s4 wx => s4 = Value.int .u64 (267 : Int) ∧ wx = W0)
  case first =>
    go_wp2_with fail
    go_meet
    exact ⟨rfl, rfl⟩
  obtain ⟨hs4, hwc⟩ := hcut
  have hwc := hwc.symm
  subst hs4 hwc
  apply_assumption
  (repeat (rename_i x; clear x))
  as_aux_lemma =>
    refine wp_seq_k fun K hK => ?_
    obtain ⟨sz, hsz⟩ : ∃ z, s.size = z := ⟨_, rfl⟩
    obtain ⟨mg, hmg⟩ : ∃ z, s.magic = z := ⟨_, rfl⟩
    have hszm : (pl = true ∧ sz = 240 ∧ mg = 523) ∨ (pl = false ∧ sz = 224 ∧ mg = 267) := by
      rw [← hsz, ← hmg]
      unfold Pe.Shape.size Pe.Shape.magic
      rw [H.out.2.2.2.2.1]
      cases pl
      · exact .inr ⟨rfl, rfl, rfl⟩
      · exact .inl ⟨rfl, rfl, rfl⟩
    have hszl : sz ≤ 240 := by omega
    have hmgl : mg ≤ 523 := by omega
    have HSM := Lib.hid (And.intro hszm (And.intro hsz hmg))
    clear hszm hsz hmg
    go_cut [3, 4] from 14 (fun s3 s4 wx => s3 = Value.int .i64 ((sz : Nat) : Int) ∧ s4 = Value.int .u64 ((mg : Nat) : Int) ∧ wx = W0)
    case first =>
      have hz := HSM.out.1
      cases pl
      · rcases hz with ⟨e, _⟩ | ⟨_, e3, e4⟩
        · cases e
        have HZ := Lib.hid (And.intro e3 e4)
        clear e3 e4
        go_wp2_with fail
        go_meet
        exact ⟨by rw [HZ.out.1]; rfl, by rw [HZ.out.2]; rfl, rfl⟩
      · rcases hz with ⟨_, e3, e4⟩ | ⟨e, _⟩
        · have HZ := Lib.hid (And.intro e3 e4)
          clear e3 e4
          go_wp2_with fail
          go_meet
          exact ⟨by rw [HZ.out.1]; rfl, by rw [HZ.out.2]; rfl, rfl⟩
        · cases e
    obtain ⟨rfl, rfl, hwc⟩ := hcut
    have hwc := hwc.symm
    subst hwc
    apply_assumption
    clear hK K
    (repeat (rename_i x; clear x))
    as_aux_lemma =>
      obtain ⟨pe, hpe⟩ : ∃ z, s.pe = z := ⟨_, rfl⟩
      obtain ⟨op, hop⟩ : ∃ z, s.opt = z := ⟨_, rfl⟩
      obtain ⟨tb, htb⟩ : ∃ z, s.table = z := ⟨_, rfl⟩
      obtain ⟨hd, hhd⟩ : ∃ z, s.headers = z := ⟨_, rfl⟩
      have a1 : pe = 64 + n1 := by rw [← hpe, ← H.out.2.2.2.2.2.1.1]; rfl
      have a2 : op = pe + 24 := by rw [← hop, ← hpe]; rfl
      have a3 : tb = op + sz := by rw [← htb, ← hop, ← HSM.out.2.1]; rfl
      have a4 : hd = tb + 40 * n3 + n2 := by rw [← hhd, ← htb, ← H.out.2.2.2.2.2.1.2.1, ← H.out.2.2.2.2.2.1.2.2.1]; rfl
      have hdl : hd ≤ 2000 := by omega
      have HP := Lib.hid (And.intro hpe (And.intro hop (And.intro htb (And.intro hhd (And.intro a1 (And.intro a2 (And.intro a3 a4)))))))
      clear hpe hop htb hhd a1 a2 a3 a4
      go_upto_region 9 with fail
      go_cut [5, 6, 7, 8] from 14 (fun s5 s6 s7 s8 wx => s5 = Value.int .i64 ((pe : Nat) : Int) ∧ s6 = Value.int .i64 ((op : Nat) : Int) ∧ s7 = Value.int .i64 ((tb : Nat) : Int) ∧ s8 = Value.int .i64 ((hd : Nat) : Int) ∧ wx = W0)
      case first =>
        obtain ⟨_, _, _, _, a1, a2, a3, a4⟩ := HP.out
        have HA := Lib.hid (And.intro a1 (And.intro a2 (And.intro a3 a4)))
        clear a1 a2 a3 a4
        go_wp2_with fail
        go_meet
        refine ⟨?_, ?_, ?_, ?_, rfl⟩
        · congr 1; have := HA.out.1; omega
        · congr 1; have := HA.out.1; have := HA.out.2.1; omega
        · congr 1; have := HA.out.1; have := HA.out.2.1; have := HA.out.2.2.1; omega
        · congr 1; have := HA.out.1; have := HA.out.2.1; have := HA.out.2.2.1; have := HA.out.2.2.2; omega
      obtain ⟨rfl, rfl, rfl, rfl, hwc⟩ := hcut
      have hwc := hwc.symm
      subst hwc
      apply_assumption
      clear q0 q3
      (repeat (rename_i x; clear x))
      as_aux_lemma =>
        have hmk := run_makeB 64 (by omega) W0
        rw [show ((64 : Nat) : Int) = 64 from rfl] at hmk
        have hz64 : ((zeroB 64).setIfInBounds 0 (.int .u8 77)).setIfInBounds 1 (.int .u8 90) = (((77 : UInt8) :: 90 :: List.replicate 62 0).map bv).toArray := by rfl
        have ho1 : OwnB (W0.alloc (.cells (zeroB 64) 5)) W0.heap.size (W0.heap.size + 1) (.slice (some ⟨W0.heap.size, 0, none⟩) 64 64) (List.replicate 64 0) := OwnB.lit W0 _ _ 64 rfl (by simp) (by omega)
        have f0 := ho1.frozenAt (by simp) 0
        have f1 := ho1.frozenAt (by simp) 1
        obtain ⟨x0, _, z0⟩ := ho1.cellAt (j := 0) (by simp) (by omega)
        obtain ⟨x1, _, z1⟩ := ho1.cellAt (j := 1) (by simp) (by omega)
        have hI2 : WI W0 (.slice (some ⟨W0.heap.size, 0, none⟩) 64 64) (77 :: 90 :: List.replicate 62 0) (W0.alloc (.cells (((zeroB 64).setIfInBounds 0 (.int .u8 77)).setIfInBounds 1 (.int .u8 90)) 5)) := by
          rw [hz64]
          exact ⟨(OwnB.lit W0 _ _ 64 rfl (by simp) (by omega)).mono (Nat.le_refl _) (by simp), by (repeat (first | exact Below.refl _ _ | assumption | (refine Below.setCell ?_ (by first | omega | (simp; done) | (simp; omega)) _) | (refine Below.alloc ?_ (by first | omega | (simp; done) | (simp; omega)) _) | (refine below_drewN ?_ _) | (refine Below.drew ?_)))⟩
        have hpel : pe ≤ 264 := by have := HP.out.2.2.2.2.1; omega
        have hla := hI2.lay (p := 60) (x := pe) (k := 4) (q := 60) (y := (pe : Int)) (j := 4) (by omega) rfl rfl rfl (by omega) (by omega) (.inr (.inr rfl))
        have hwp : IntKind.u64.wrap (pe : Int) = (pe : Int) := by simp only [IntKind.wrap, IntKind.bits, IntKind.signed]; simp; omega
        have hws : IntKind.u64.wrap (sz : Int) = (sz : Int) := by simp only [IntKind.wrap, IntKind.bits, IntKind.signed]; simp; omega
        have hwn : IntKind.u64.wrap (n3 : Int) = (n3 : Int) := by simp only [IntKind.wrap, IntKind.bits, IntKind.signed]; simp; omega
        have hwh : IntKind.u64.wrap (hd : Int) = (hd : Int) := by simp only [IntKind.wrap, IntKind.bits, IntKind.signed]; simp; omega
        have H2 := Lib.hid (And.intro hI2 hla)
        clear hI2 hla ho1 hz64
        go_wp2_with fail
        refine H2.out.2.mono ?_
        rintro e w3 ⟨rfl, h3, _⟩
        have q13 := (H.out.1 w3 h3.below).2.1
        have hl3 : (Pe.dos pe).length = 64 := Pe.dos_len pe
        have H3 := Lib.hid (And.intro (show WI W0 (.slice (some ⟨W0.heap.size, 0, none⟩) 64 64) (Pe.dos pe) w3 from h3) hl3)
        clear h3 hl3 f0 f1 z0 z1 hmk q1 q2
        go_upto_region 14 with fail
        go_cut [9] from 14 (fun s9 wx => WI W0 s9 (Pe.dos pe ++ s.stub) wx)
        case first =>
          go_wp2_with
            (first
              | (at_builtin
                 refine wpList_app rfl (.tmp 44) (.tmp 46) rfl W0.heap.size w3.heap.size _ (Pe.dos pe) rfl H3.out.1.own H3.out.1.below.size w.heap.size A1 n1 c1 s.stub rfl (HRD.out w3 H3.out.1.below).1.rds (by rw [H3.out.2]; omega) ?_
                 intro v4 w4 ho4 hg4 hat4 hb4
                 have H4 := Lib.hid (WI.mk ho4 (H3.out.1.below.trans hb4))
                 clear ho4 hg4 hat4 hb4)
              | fail)
          go_meet
          exact H4.out
        apply_assumption
        (repeat (rename_i x; clear x))
        as_aux_lemma =>
          obtain ⟨w4, hw4⟩ : ∃ w4, w4 = wc := ⟨_, rfl⟩
          subst hw4
          have H4 := Lib.hid (And.intro hcut (show (Pe.dos pe ++ s.stub).length = pe by rw [List.length_append, H3.out.2, H.out.2.2.2.2.2.1.1, HP.out.2.2.2.2.1]))
          clear hcut q13
          obtain ⟨qn, hqn⟩ : ∃ q, hd - n2 - pe = q := ⟨_, rfl⟩
          have hqi : (hd : Int) - n2 - pe = (qn : Int) := by have h1 := HP.out.2.2.2.2.1; have h2 := HP.out.2.2.2.2.2.1; have h3 := HP.out.2.2.2.2.2.2.1; have h4 := HP.out.2.2.2.2.2.2.2; omega
          have hql : qn ≤ 2000 := by omega
          have hmk := run_makeB qn (by omega) w4
          rw [← hqi] at hmk
          have q24 := (H.out.1 w4 H4.out.1.below).2.2.1
          have hrz : Rd (w4.alloc (.cells (zeroB qn) 5)) (w4.alloc (.cells (zeroB qn) 5)).heap.size (some ⟨w4.heap.size, 0, none⟩) qn qn (List.replicate qn 0) := Rd.lit w4 5 _ _ _ qn rfl rfl (by simp) (by omega)
          have HQ := Lib.hid (And.intro hrz (And.intro hqi hqn))
          clear hrz hqn hqi
          go_upto_region 16 with fail
          go_cut [9] from 14 (fun s9 wx => WI W0 s9 (Pe.dos pe ++ s.stub ++ List.replicate qn 0) wx)
          case first =>
            go_wp2_with
              (first
                | (at_builtin
                   refine wpList_app rfl (.tmp 56) (.tmp 57) rfl W0.heap.size w4.heap.size _ (Pe.dos pe ++ s.stub) rfl (H4.out.1.own.alloc (Nat.le_refl _) _) (by have := H4.out.1.below.size; simp; omega) _ _ qn qn (List.replicate qn 0) rfl HQ.out.1.rds (by rw [H4.out.2]; omega) ?_
                   intro v5 w5 ho5 hg5 hat5 hb5
                   have hb5' : Below W0.heap.size W0 w5 := (H4.out.1.below.alloc H4.out.1.below.size (.cells (zeroB qn) 5)).trans hb5
                   have H5 := Lib.hid (WI.mk ho5 hb5')
                   clear ho5 hg5 hat5 hb5 hb5')
                | fail)
            go_meet
            exact H5.out
          apply_assumption
          (repeat (rename_i x; clear x))
          as_aux_lemma =>
            obtain ⟨w5, hw5⟩ : ∃ w5, w5 = wc := ⟨_, rfl⟩
            subst hw5
            have H5 := Lib.hid (And.intro hcut (show (Pe.dos pe ++ s.stub ++ List.replicate qn 0).length = pe + qn by rw [List.length_append, H4.out.2, List.length_replicate]))
            clear hcut hmk q24
            have q25 := (H.out.1 w5 H5.out.1.below).2.2.1
            go_upto_region 17 with fail
            go_cut [9] from 14 (fun s9 wx => WI W0 s9 s.bare wx)
            case first =>
              go_wp2_with
                (first
                  | (at_builtin
                     refine wpList_app rfl (.tmp 59) (.tmp 61) rfl W0.heap.size w5.heap.size _ (Pe.dos pe ++ s.stub ++ List.replicate qn 0) rfl H5.out.1.own H5.out.1.below.size w.heap.size A2 n2 c2 s.fill rfl (HRD.out w5 H5.out.1.below).2.1.rds (by rw [H5.out.2]; omega) ?_
                     intro v6 w6 ho6 hg6 hat6 hb6
                     have e6 : Pe.dos pe ++ s.stub ++ List.replicate qn 0 ++ s.fill = s.bare := by unfold Pe.Shape.bare; rw [HP.out.1, HP.out.2.2.2.1, H.out.2.2.2.2.2.1.2.1, HQ.out.2.2]
                     rw [e6] at ho6
                     have H6 := Lib.hid (WI.mk ho6 (H5.out.1.below.trans hb6))
                     clear ho6 hg6 hat6 hb6 e6)
                  | fail)
              go_meet
              exact H6.out
            apply_assumption
            (repeat (rename_i x; clear x))
            as_aux_lemma =>
              obtain ⟨w6, hw6⟩ : ∃ w6, w6 = wc := ⟨_, rfl⟩
              subst hw6
              have B6 := Lib.hid (show pe + 24 = op ∧ op + sz = tb ∧ tb + 40 * n3 + n2 = hd ∧ 224 ≤ sz from ⟨HP.out.2.2.2.2.2.1.symm, HP.out.2.2.2.2.2.2.1.symm, HP.out.2.2.2.2.2.2.2.symm, by have := HSM.out.1; omega⟩)
              have H6 := Lib.hid hcut
              clear hcut q25
              have hdp : 0 < hd := by have h1 := B6.out; omega
              have hopl : op ≤ 288 := by have h1 := B6.out; omega
              have htbl : 248 ≤ tb ∧ tb ≤ 528 := by have h1 := B6.out; omega
              go_upto_region 18 with fail
              go_cut [9] from 14 (fun s9 wx => WI W0 s9 s.b1 wx)
              case first =>
                obtain ⟨g, cap, hv⟩ := H6.out.form (by rw [s.bare_len, HP.out.2.2.2.1]; exact hdp)
                rw [s.bare_len, HP.out.2.2.2.1] at hv
                subst hv
                go_wp2_with fail
                refine (H6.out.lay (p := pe) (x := 17744) (k := 4) (by omega) (by have h1 := B6.out; omega) rfl rfl (by have h1 := B6.out; omega) (by omega) (.inr (.inr rfl))).mono ?_
                rintro e w7 ⟨rfl, h7, _⟩
                rw [show Pe.putAt s.bare (pe) 17744 4 = s.b1 by unfold Pe.Shape.b1; rw [HP.out.1]] at h7
                have H7 := Lib.hid h7
                clear h7
                go_wp2_with fail
                go_meet
                exact H7.out
              apply_assumption
              (repeat (rename_i x; clear x))
              as_aux_lemma =>
                obtain ⟨w7, hw7⟩ : ∃ w7, w7 = wc := ⟨_, rfl⟩
                subst hw7
                have H7 := Lib.hid hcut
                clear hcut
                go_upto_region 19 with fail
                go_cut [9] from 14 (fun s9 wx => WI W0 s9 s.b2 wx)
                case first =>
                  obtain ⟨g, cap, hv⟩ := H7.out.form (by rw [s.b1_len, HP.out.2.2.2.1]; exact hdp)
                  rw [s.b1_len, HP.out.2.2.2.1] at hv
                  subst hv
                  have q3 := (H.out.1 w7 H7.out.below).2.2.2.1
                  go_wp2_with fail
                  refine (H7.out.lay (p := pe + 6) (x := n3) (k := 2) (by omega) (by have h1 := B6.out; omega) rfl rfl (by have h1 := B6.out; omega) (by omega) (.inr (.inl rfl))).mono ?_
                  rintro e w8 ⟨rfl, h8, _⟩
                  rw [show Pe.putAt s.b1 (pe + 6) n3 2 = s.b2 by unfold Pe.Shape.b2; rw [HP.out.1, H.out.2.2.2.2.2.1.2.2.1]] at h8
                  have H8 := Lib.hid h8
                  clear h8
                  go_wp2_with fail
                  go_meet
                  exact H8.out
                apply_assumption
                (repeat (rename_i x; clear x))
                as_aux_lemma =>
                  obtain ⟨w8, hw8⟩ : ∃ w8, w8 = wc := ⟨_, rfl⟩
                  subst hw8
                  have H8 := Lib.hid hcut
                  clear hcut
                  go_upto_region 20 with fail
                  go_cut [9] from 14 (fun s9 wx => WI W0 s9 s.b3 wx)
                  case first =>
                    obtain ⟨g, cap, hv⟩ := H8.out.form (by rw [s.b2_len, HP.out.2.2.2.1]; exact hdp)
                    rw [s.b2_len, HP.out.2.2.2.1] at hv
                    subst hv
                    go_wp2_with fail
                    refine (H8.out.lay (p := pe + 20) (x := sz) (k := 2) (by omega) (by have h1 := B6.out; omega) rfl rfl (by have h1 := B6.out; omega) (by omega) (.inr (.inl rfl))).mono ?_
                    rintro e w9 ⟨rfl, h9, _⟩
                    rw [show Pe.putAt s.b2 (pe + 20) sz 2 = s.b3 by unfold Pe.Shape.b3; rw [HP.out.1, HSM.out.2.1]] at h9
                    have H9 := Lib.hid h9
                    clear h9
                    go_wp2_with fail
                    go_meet
                    exact H9.out
                  apply_assumption
                  (repeat (rename_i x; clear x))
                  as_aux_lemma =>
                    obtain ⟨w9, hw9⟩ : ∃ w9, w9 = wc := ⟨_, rfl⟩
                    subst hw9
                    have H9 := Lib.hid hcut
                    clear hcut
                    go_upto_region 21 with fail
                    go_cut [9] from 14 (fun s9 wx => WI W0 s9 s.b4 wx)
                    case first =>
                      obtain ⟨g, cap, hv⟩ := H9.out.form (by rw [s.b3_len, HP.out.2.2.2.1]; exact hdp)
                      rw [s.b3_len, HP.out.2.2.2.1] at hv
                      subst hv
                      go_wp2_with fail
                      refine (H9.out.lay (p := op) (x := mg) (k := 2) (by omega) (by have h1 := B6.out; omega) rfl rfl (by have h1 := B6.out; omega) (by omega) (.inr (.inl rfl))).mono ?_
                      rintro e w10 ⟨rfl, h10, _⟩
                      rw [show Pe.putAt s.b3 (op) mg 2 = s.b4 by unfold Pe.Shape.b4; rw [HP.out.2.1, HSM.out.2.2]] at h10
                      have H10 := Lib.hid h10
                      clear h10
                      go_wp2_with fail
                      go_meet
                      exact H10.out
                    apply_assumption
                    (repeat (rename_i x; clear x))
                    as_aux_lemma =>
                      obtain ⟨w10, hw10⟩ : ∃ w10, w10 = wc := ⟨_, rfl⟩
                      subst hw10
                      have H10 := Lib.hid hcut
                      clear hcut
                      go_upto_region 22 with fail
                      go_cut [9] from 14 (fun s9 wx => WI W0 s9 s.b5 wx)
                      case first =>
                        obtain ⟨g, cap, hv⟩ := H10.out.form (by rw [s.b4_len, HP.out.2.2.2.1]; exact hdp)
                        rw [s.b4_len, HP.out.2.2.2.1] at hv
                        subst hv
                        go_wp2_with fail
                        refine (H10.out.lay (p := op + 60) (x := hd) (k := 4) (by omega) (by have h1 := B6.out; omega) rfl rfl (by have h1 := B6.out; omega) (by omega) (.inr (.inr rfl))).mono ?_
                        rintro e w11 ⟨rfl, h11, _⟩
                        rw [show Pe.putAt s.b4 (op + 60) hd 4 = s.b5 by unfold Pe.Shape.b5; rw [HP.out.2.1, HP.out.2.2.2.1]] at h11
                        have H11 := Lib.hid h11
                        clear h11
                        go_wp2_with fail
                        go_meet
                        exact H11.out
                      apply_assumption
                      (repeat (rename_i x; clear x))
                      as_aux_lemma =>
                        obtain ⟨w11, hw11⟩ : ∃ w11, w11 = wc := ⟨_, rfl⟩
                        subst hw11
                        have H11 := Lib.hid hcut
                        clear hcut
                        go_upto_region 23 with fail
                        go_cut [9] from 14 (fun s9 wx => WI W0 s9 s.head wx)
                        case first =>
                          obtain ⟨g, cap, hv⟩ := H11.out.form (by rw [s.b5_len, HP.out.2.2.2.1]; exact hdp)
                          rw [s.b5_len, HP.out.2.2.2.1] at hv
                          subst hv
                          go_wp2_with fail
                          refine (H11.out.lay (p := tb - 132) (x := 16) (k := 4) (by omega) (by have h1 := B6.out; omega) rfl rfl (by have h1 := B6.out; omega) (by omega) (.inr (.inr rfl))).mono ?_
                          rintro e w12 ⟨rfl, h12, _⟩
                          rw [show Pe.putAt s.b5 (tb - 132) 16 4 = s.head by unfold Pe.Shape.head; rw [HP.out.2.2.1]] at h12
                          have H12 := Lib.hid h12
                          clear h12
                          go_wp2_with fail
                          go_meet
                          exact H12.out
                        apply_assumption
                        (repeat (rename_i x; clear x))
                        as_aux_lemma =>
                          obtain ⟨w12, hw12⟩ : ∃ w12, w12 = wc := ⟨_, rfl⟩
                          subst hw12
                          have H12 := Lib.hid hcut
                          clear hcut
                          clear hwp hws hwh
                          go_upto_region 24 with fail
                          obtain ⟨ol, hol⟩ : ∃ ol, s.order' = ol := ⟨_, rfl⟩
                          have hord := order_any V s w12 ((H.out.2.1 w12 H12.out.below).more (by have := H12.out.below.size; omega)) (by rw [H.out.2.2.2.2.2.1.2.2.1]; exact b3') (by rw [H.out.2.2.2.2.2.1.2.2.1]; omega) hor
                          rw [show Pe.orderOf s.bodies.length s.order = ol from hol] at hord
                          have hBs := (H.out.1 w12 H12.out.below).2.2.2.2.2.2.2
                          have HO := Lib.hid (And.intro hord (And.intro hol hBs))
                          clear hord hol hBs
                          go_cut [11] from 14 (fun s11 wx => ∃ A n c, s11 = Value.slice A n c ∧ OwnC 3 1 wx w12.heap.size wx.heap.size (.slice A n c) n (ol.map natV) ∧ Below w12.heap.size w12 wx)
                          case first =>
                            go_wp2_with (first
                              | ((with_reducible refine at_load_sh ?_); refine wpList_load_sh rfl _ rfl w.heap.size V rfl HO.out.2.2 ?_)
                              | fail)
                            refine HO.out.1.mono ?_
                            rintro e w13 ⟨A9, n9, c9, rfl, ho9, hb9⟩
                            have H9 := Lib.hid (And.intro ho9 hb9)
                            clear ho9 hb9
                            go_wp2_with fail
                            go_meet
                            exact ⟨A9, n9, c9, rfl, H9.out.1, H9.out.2⟩
                          apply_assumption
                          (repeat (rename_i x; clear x))
                          as_aux_lemma =>
                            obtain ⟨w13, hw13⟩ : ∃ w13, w13 = wc := ⟨_, rfl⟩
                            subst hw13
                            obtain ⟨A9, n9, c9, rfl, ho9, hb9⟩ := hcut
                            have hn9 : ol.length = n9 := by have := ho9.1.1; simpa using this
                            have H13 := Lib.hid (And.intro (H12.out.later hb9) (And.intro ho9 hn9))
                            clear ho9 hb9
                            have R := H.out.2.2.2.2.2.2
                            have hx : WX V s w W0 A3 n3 c3 l3 A5 n5 c5 A6 n6 c6 l6 tb hd :=
                              ⟨fun wr hb => ⟨(H.out.1 wr hb).2.2.2.1, (H.out.1 wr hb).2.2.2.2.2.1, (H.out.1 wr hb).2.2.2.2.2.2.1⟩, fun wr hb => ⟨(HRD.out wr hb).2.2.1, (HRD.out wr hb).2.2.2.1, (HRD.out wr hb).2.2.2.2⟩,
                                R.2.2.2.2.2.1, R.2.2.2.2.2.2, H.out.2.2.2.1, HP.out.2.2.1, HP.out.2.2.2.1, hX, H.out.2.2.1, ⟨b3', b3⟩, ⟨b5, H.out.2.2.2.2.2.1.2.2.2.1⟩, ⟨b6, H.out.2.2.2.2.2.1.2.2.2.2⟩, by have h1 := B6.out; omega⟩
                            exact write_tail1 hx H.out.2.2.2.2.2.1.2.2.1 hor w13 _ H13.out.1 w12.heap.size w13.heap.size n9 c9 A9 ol HO.out.2.1 H13.out.2.1 _ _ _ _ _ _ _ _ _ _ _ _ _ _ _ _ _ _ _ _ _ _ _ _ _ _ _ _ _ _ _ _ _ _ _ _ _ _ _ _ _ _ _ _ _ _ _ _ _ _ _ _ _ _ _ _ _ _ _ _ _ _ _ _ _ _ _ _ _ _ _ _ _ _ _ _ _ _ _ _ _ _ _ _ _ _ _ _ _ _ _ _ _ _ _ _ _ _ _ _ _ _ _ _ _ _ _ _ _ _ _ _ _ _ _ _ _ _ _ _ _ _ _ _ _ _ _ _ _ _ _ _ _ _ _ _ _ _ _ _ _ _ _ _ _ _ _ _ _ _ _ _ _ _ _ _ _ _ _ _ _ _ _ _ _ _ _ _ _ _ _ _ _ _ _ _ _ _ _ _ _ _ _ _ _ _ _ _ _ _
end Go.Proofs.YtmpladnglfiejaaGreatDoor
end

section
/- What Parse tells of the anchor, in memory. -/
namespace Go.Proofs.YtmpladnglfiejaaGreatDoor
open Go.RowKit
set_option maxRecDepth 100000
set_option linter.unusedVariables false
theorem anchor_facts {C : IV} {lo : Nat} {w : World} (h : ImgOwn (Pe.write (Pe.brought Pe.anchor)) C lo w) :
    C.plus = false ∧ C.headers = 392 ∧ C.length = 16 ∧ ∃ b o c bs os cs A2 c2, C.secs = .slice (some ⟨b, o, none⟩) 2 c ∧ b < w.heap.size ∧ w.cell? ⟨b, o, none⟩ = some (.int .u32 393) ∧ w.cell? ⟨b, o + 2, none⟩ = some (.int .u32 392) ∧ w.cell? ⟨b, o + 2 + 1, none⟩ = some (.int .u32 1) ∧
      C.sigs = .slice (some ⟨bs, os, none⟩) 1 cs ∧ bs < w.heap.size ∧ w.cell? ⟨bs, os, none⟩ = some (.slice A2 2 c2) := by
  have hi := Pe.anchor_read.2
  generalize Pe.write (Pe.brought Pe.anchor) = xs at h hi
  have e0 : Pe.plus xs = false := congrArg Pe.Img.plus hi
  have e3 : Pe.headers xs = 392 := congrArg Pe.Img.headers hi
  have e4 : Pe.secs xs = [(393, 2), (392, 1)] := congrArg Pe.Img.secs hi
  have e6 : (if Pe.bare xs then 0 else Pe.length xs) = 16 := congrArg Pe.Img.length hi
  have e7 : Pe.sigs xs = [[48, 7]] := congrArg Pe.Img.sigs hi
  obtain ⟨n0, n1, n2, n3, n5, n6⟩ := h.nums
  have hs := h.secs
  rw [e4] at hs
  obtain ⟨A, c, hA, hr⟩ := hs.rdS
  obtain ⟨b, o, x, rfl, hb, hx, k0, k1⟩ := hr.get (k := 0) (by simp)
  obtain ⟨b', o', x', e, hb', hx', k2, k3⟩ := hr.get (k := 1) (by simp)
  injection e with e
  injection e with e8 e9
  subst e8 e9
  simp only [List.getElem?_cons_zero, Option.some.injEq] at hx
  simp only [List.getElem?_cons_succ, List.getElem?_cons_zero, Option.some.injEq] at hx'
  subst hx hx'
  obtain ⟨l, hg, hl⟩ := h.sigs
  rw [e7] at hl
  obtain ⟨⟨v, zs⟩, rfl⟩ : ∃ q, l = [q] := by
    have := congrArg List.length hl
    simp at this
    rcases l with _ | ⟨q, _ | ⟨q', l⟩⟩
    · simp at this
    · exact ⟨q, rfl⟩
    · simp at this
  simp only [List.map_cons, List.map_nil, List.cons.injEq, and_true] at hl
  subst hl
  obtain ⟨A2, n2, c2, rfl, hr2⟩ := (hg.own _ (List.mem_singleton.2 rfl)).rd
  have hn2 : n2 = 2 := by have := hr2.len; simpa using this.symm
  subst hn2
  obtain ⟨Ag, cg, hgv, _, _, _, hrd⟩ := hg.row.shape
  obtain ⟨ad, rfl, hbs, hcs⟩ := hrd.2 (by simp)
  have hc0 := hcs 0 (.slice A2 2 c2) (by simp)
  obtain ⟨g, cap, ef, hgl, _⟩ := hg.row.1.form (by simp)
  rw [hgv] at ef
  injection ef with ef _ _
  injection ef with ef
  subst ef
  refine ⟨by rw [n0, e0], by rw [n3, e3], by rw [n6, e6], b, o, c, g, 0, cg, A2, c2, hA, hb, ?_, ?_, ?_, hgv, hbs, ?_⟩
  · simpa using k0
  · simpa using k2
  · simpa using k3
  · rw [Addr.add_lit] at hc0
    simpa using hc0
end Go.Proofs.YtmpladnglfiejaaGreatDoor
end
