/- The contract of the document's General. -/
import Derived.Test.YtmnekhliblkibaaRC2
import Derived.BigQuiet
import Derived.BigRegion
import Derived.Deep.QuietTactic
import Derived.Deep.RegionHeld3
namespace Go.Proofs.Ytmnekhliblkibaa
open Go.RowKit
set_option maxRecDepth 100000
set_option linter.unusedVariables false
set_option linter.unusedSimpArgs false

set_option maxHeartbeats 4000000 in
theorem rgeneral_any (A : Option Addr) (n c : Nat) (b : List UInt8) (w : World) (h : Rd w w.heap.size A n c b) :
    Calls Try.prog 98 #[.slice A n c] w (ToldPost (Stamp.told 4 id b) w) := by
  rw [← general_eq]
  have hl := h.len
  have hb0 := Blk.new w 27 #[.int .u16 0, .int .u8 0, .int .u8 0, .int .u8 0, .int .u8 0, .int .u8 0]
  have g0 : Below w.heap.size w (w.alloc (.cells #[.int .u16 0, .int .u8 0, .int .u8 0, .int .u8 0, .int .u8 0, .int .u8 0] 27)) := by (repeat (first | exact Below.refl _ _ | assumption | (refine Below.setCell ?_ (by first | omega | (simp; done) | (simp; omega)) _) | (refine Below.alloc ?_ (by first | omega | (simp; done) | (simp; omega)) _) | (refine below_drewN ?_ _) | (refine Below.drew ?_)))
  obtain ⟨o, ho⟩ : ∃ o, RC.general b = o := ⟨_, rfl⟩
  -- refused
  have bad : ∀ (Wx : World) (tmps : Array Value), Blk Wx w.heap.size 27 #[.int .u16 0, .int .u8 0, .int .u8 0, .int .u8 0, .int .u8 0, .int .u8 0] → Below w.heap.size w Wx → RC.general b = none → tmps.getD 2 undef = .pointer (some ⟨w.heap.size, 0, none⟩) → tmps.getD 3 undef = .bool false →
      bodyPost Try.prog Try.f98 (ToldPost (RC.general b) w) .ret { tmps := tmps, defers := [] } ((((((Wx.setCell ⟨w.heap.size, 0, none⟩ (.int .u16 0)).setCell ⟨w.heap.size, 1, none⟩ (.int .u8 0)).setCell ⟨w.heap.size, 2, none⟩ (.int .u8 0)).setCell ⟨w.heap.size, 3, none⟩ (.int .u8 0)).setCell ⟨w.heap.size, 4, none⟩ (.int .u8 0)).setCell ⟨w.heap.size, 5, none⟩ (.int .u8 0)) := by
    intro Wx tmps hbx hbw hno h4 h5
    have e4 := ((((((hbx.set_ 0 (.int .u16 0)).set_ 1 (.int .u8 0)).set_ 2 (.int .u8 0)).set_ 3 (.int .u8 0)).set_ 4 (.int .u8 0)).set_ 5 (.int .u8 0))
    have hld := load_time _ _ _ _ _ _ _ _ e4
    refine bodyPost_ret (results_cell_tmp rfl _ _ _ _ _ h4 hld) rfl ?_
    rw [h5]
    refine ⟨?_, .inl ⟨hno, rfl⟩⟩
    exact ((((((hbw.setCell (by dsimp only; omega) _).setCell (by dsimp only; omega) _).setCell (by dsimp only; omega) _).setCell (by dsimp only; omega) _).setCell (by dsimp only; omega) _).setCell (by dsimp only; omega) _)
  have BAD := Lib.hid bad
  clear bad
  obtain ⟨r0, r1⟩ := hb0.facts
  have H := Lib.hid (And.intro h (And.intro hl (And.intro hb0 g0)))
  clear h hl hb0 g0
  go_enter Try.func98, Try.ntmps98
  by_cases h13 : n = 15
  · subst h13
    obtain ⟨T0, t0⟩ : ∃ T, RC.two b 0 = T := ⟨_, rfl⟩
    obtain ⟨T1, t1⟩ : ∃ T, RC.two b 2 = T := ⟨_, rfl⟩
    have l0 : T0 ≤ 100 := t0 ▸ two_le b 0
    have l1 : T1 ≤ 100 := t1 ▸ two_le b 2
    have HT := Lib.hid (And.intro t0 t1)
    clear t0 t1
    go_wp2_with fail
    refine (rtwo_b A 15 c b 0 _ (H.out.1.up H.out.2.2.2) (by omega) (by omega)).mono ?_
    rw [HT.out.1]
    rintro e w1 ⟨rfl, hb1⟩
    have g1 := H.out.2.2.2.trans (hb1.mono H.out.2.2.2.size)
    have q1 := H.out.2.2.1.below hb1 (by simp)
    have H1 := Lib.hid (And.intro g1 q1)
    clear hb1 g1 q1 r0 r1
    obtain ⟨r0, r1⟩ := H1.out.2.facts
    by_cases h100 : T0 = 100
    · subst h100
      go_wp2
      refine BAD.out w1 _ H1.out.2 H1.out.1 ?_ rfl rfl
      unfold RC.general
      rw [if_neg (fun h => h.2.1 HT.out.1)]
    · have hne : ((T0 : Int) == 100) = false := by simp; omega
      go_wp2_with fail
      refine (rtwo_b A 15 c b 2 _ (H.out.1.up H1.out.1) (by omega) (by omega)).mono ?_
      rw [HT.out.2]
      rintro e w2 ⟨rfl, hb2⟩
      have g2 := H1.out.1.trans (hb2.mono H1.out.1.size)
      have q2 := H1.out.2.below hb2 H1.out.2.lt
      have H2 := Lib.hid (And.intro g2 q2)
      clear hb2 g2 q2 r0 r1
      obtain ⟨r0, r1⟩ := H2.out.2.facts
      by_cases h101 : T1 = 100
      · subst h101
        go_wp2
        refine BAD.out w2 _ H2.out.2 H2.out.1 ?_ rfl rfl
        unfold RC.general
        rw [if_neg (fun h => h.2.2 HT.out.2)]
      · have hne1 : ((T1 : Int) == 100) = false := by simp; omega
        have HS : Hid (RC.general b = RC.mom (100 * T0 + T1) (b.drop 4)) := Lib.hid (by unfold RC.general; rw [if_pos ⟨H.out.2.1, by rw [HT.out.1]; exact h100, by rw [HT.out.2]; exact h101⟩, HT.out.1, HT.out.2])
        clear h100 h101
        have hc0 : ∀ W, Rd W W.heap.size A 15 c b → Calls Try.prog 106 #[.slice A 15 c, .int .i64 0] W (TwoB T0 W) := fun W hW => by
          have := rtwo_b A 15 c b 0 W hW (by omega) (by omega)
          rwa [HT.out.1] at this
        have hc2 : ∀ W, Rd W W.heap.size A 15 c b → Calls Try.prog 106 #[.slice A 15 c, .int .i64 2] W (TwoB T1 W) := fun W hW => by
          have := rtwo_b A 15 c b 2 W hW (by omega) (by omega)
          rwa [HT.out.2] at this
        have HC := Lib.hid (And.intro hc0 hc2)
        clear hc0 hc2
        have hw1 : IntKind.i64.wrap (100 * (T0 : Int)) = 100 * (T0 : Int) := IntWalk.i64_in _ (by omega)
        have hw2 : IntKind.i64.wrap (100 * (T0 : Int) + (T1 : Int)) = 100 * (T0 : Int) + (T1 : Int) := IntWalk.i64_in _ (by omega)
        have hd2 := (H.out.1.up H2.out.1).drew
        obtain ⟨A1, hr1, hcutA, hcut⟩ := run_cut_lo hd2 4 4 rfl (by omega)
        have HD := Lib.hid (And.intro hd2 hr1)
        clear hd2 hr1
        have hM0 : ∀ W, Rd W W.heap.size A1 11 (c - 4) (b.drop 4) → Calls Try.prog 107 #[.int .i64 (100 * (T0 : Int) + (T1 : Int)), .slice A1 11 (c - 4)] W (ToldPost o W) := fun W hW => by
          have := rmoment_any (100 * T0 + T1) (by omega) A1 (c - 4) (b.drop 4) W hW
          rw [← HS.out, ho] at this
          push_cast at this
          exact this
        obtain ⟨⟨y, mo, d, hh, mi, s⟩, hT⟩ : ∃ T : Tm, o.getD Tm.zero = T := ⟨_, rfl⟩
        obtain ⟨q, hq⟩ : ∃ q : Bool, o.isSome = q := ⟨_, rfl⟩
        have hM : ∀ W, Rd W W.heap.size A1 11 (c - 4) (b.drop 4) → Calls Try.prog 107 #[.int .i64 (100 * (T0 : Int) + (T1 : Int)), .slice A1 11 (c - 4)] W (fun e w' => e = .returned (.tuple #[(⟨y, mo, d, hh, mi, s⟩ : Tm).v, .bool q]) ∧ Below W.heap.size W w') := fun W hW => by
          refine (hM0 W hW).mono ?_
          rintro e w' ⟨hb, ⟨h1, rfl⟩ | ⟨t, h1, rfl⟩⟩
          · subst h1; rw [← hT, ← hq]; exact ⟨rfl, hb⟩
          · subst h1; rw [← hT, ← hq]; exact ⟨rfl, hb⟩
        have HTO := Lib.hid (And.intro hT hq)
        clear hM0 hT hq
        have HM := Lib.hid hM
        clear hM
        go_upto_region 3 with fail
        go_region_held3 (fun w' => True) (trivial)
          (first
            | (go_at_call 106; ((with_reducible refine (HC.out.1 _ HD.out.1).mono ?_); rintro en w3 ⟨rfl, hb3⟩); have H3 := Lib.hid (And.intro (HD.out.1.up hb3) (And.intro (HD.out.2.up hb3) hb3)); clear hb3)
            | (go_at_call 106; ((with_reducible refine (HC.out.2 _ H3.out.1).mono ?_); rintro en w4 ⟨rfl, hb4⟩); have H4 := Lib.hid (And.intro (H3.out.1.up hb4) (And.intro (H3.out.2.1.up hb4) (H3.out.2.2.trans (hb4.mono H3.out.2.2.size)))); clear hb4)
            | (go_at_call 107; ((with_reducible refine (HM.out _ H4.out.2.1).mono ?_); rintro en w5 ⟨rfl, hb5⟩); dsimp only [Tm.v]; have H5 := Lib.hid (And.intro ((H2.out.2.below (Below.drew (Below.refl _ _)) H2.out.2.lt).below (H4.out.2.2.trans (hb5.mono H4.out.2.2.size)) H2.out.2.lt) ((Below.drew H2.out.1).trans ((H4.out.2.2.trans (hb5.mono H4.out.2.2.size)).mono H2.out.1.size))); clear hb5 r0 r1; obtain ⟨r0, r1⟩ := H5.out.1.facts))
        go_wp2
        have e4 := ((((((H5.out.1.set_ 0 (.int .u16 (y : Int))).set_ 1 (.int .u8 (mo : Int))).set_ 2 (.int .u8 (d : Int))).set_ 3 (.int .u8 (hh : Int))).set_ 4 (.int .u8 (mi : Int))).set_ 5 (.int .u8 (s : Int)))
        have hld := load_time _ _ _ _ _ _ _ _ e4
        refine bodyPost_ret (results_cell_tmp rfl _ _ _ _ _ rfl hld) rfl ?_
        refine ⟨?_, ?_⟩
        · exact ((((((H5.out.2.setCell (by dsimp only; omega) _).setCell (by dsimp only; omega) _).setCell (by dsimp only; omega) _).setCell (by dsimp only; omega) _).setCell (by dsimp only; omega) _).setCell (by dsimp only; omega) _)
        · rw [ho]
          cases o with
          | none => left; exact ⟨rfl, by rw [← HTO.out.2]; have := HTO.out.1; simp only [Option.getD_none, Tm.zero, Tm.mk.injEq] at this; obtain ⟨rfl, rfl, rfl, rfl, rfl, rfl⟩ := this; rfl⟩
          | some t => right; exact ⟨t, rfl, by rw [← HTO.out.2]; have := HTO.out.1; simp only [Option.getD_some] at this; subst this; rfl⟩
  · have hne : ((n : Int) != 15) = true := by simp; omega
    have hno : RC.general b = none := by unfold RC.general; rw [if_neg (fun h => h13 (by have := H.out.2.1; omega))]
    have HN := Lib.hid hno
    clear h13 hno
    go_wp2
    have hld := load_time _ _ _ _ _ _ _ _ H.out.2.2.1
    refine bodyPost_ret (results_cell_tmp rfl _ _ _ _ _ rfl hld) rfl ?_
    exact ⟨H.out.2.2.2, .inl ⟨HN.out, rfl⟩⟩
end Go.Proofs.Ytmnekhliblkibaa
