/- Joined of: Cert8. -/
import Derived.Test.YtmnekhliblkibaaGH
import Derived.Deep.Cut
import Derived.Deep.RegionHeld3
section
/- The contract of cert.extension. -/
namespace Go.Proofs.Ytmnekhliblkibaa
open Go.RowKit
set_option maxRecDepth 100000
set_option linter.unusedVariables false
set_option linter.unusedSimpArgs false

def Cert.lastOk (l : List El) (j : Nat) : Bool := (((l.getD j El.none_).1.toNat : Int) == 4) && (decide (j = 1) || Cert.yes (l.getD 1 El.none_))
def Cert.told (f : Fl) (o : List Nat) (l : List El) (j : Nat) : Option Fl :=
  if o = [2, 5, 29, 19] then (Cert.only (l.getD j El.none_).2.1).bind (Cert.constraints f)
  else if o = [2, 5, 29, 15] then (Cert.only (l.getD j El.none_).2.1).bind (Cert.usage f)
  else if o = [2, 5, 29, 37] then (Cert.only (l.getD j El.none_).2.1).bind (Cert.purposes f)
  else (Cert.must (decide (j = 1))).bind fun _ => some f
def Cert.extension (f : Fl) (x : El) : Option (Fl × List UInt8) := (Cert.parts 48 2 3 x).bind fun l => (Cert.arcs (l.getD 0 El.none_)).bind fun o =>
  (Cert.must (Cert.lastOk l (l.length - 1))).bind fun _ => (Cert.told f o l (l.length - 1)).bind fun g => some (g, (l.getD 0 El.none_).2.1)

theorem Reads.take {w : World} {B n : Nat} {A : Option Addr} {xs : List Value} (h : Reads w B 1 A n xs) (k : Nat) (hk : k ≤ n) : Reads w B 1 A k (xs.take k) := by
  refine ⟨by rw [List.length_take, h.1]; omega, fun h0 => ?_⟩
  obtain ⟨ad, e, hb, hc⟩ := h.2 (by omega)
  refine ⟨ad, e, hb, fun j u hu => hc j u ?_⟩
  rw [List.getElem?_take] at hu
  split at hu
  · exact hu
  · cases hu
theorem told_other (f : Fl) (o : List Nat) (l : List El) (j : Nat) (h : (decide (o.length = 4) && (o.take 3 == [2, 5, 29])) = false) : Cert.told f o l j = (Cert.must (decide (j = 1))).bind fun _ => some f := by
  unfold Cert.told
  rw [if_neg, if_neg, if_neg]
  all_goals (rintro rfl; revert h; decide)
theorem told_four (f : Fl) (o : List Nat) (l : List El) (j : Nat) (h : (decide (o.length = 4) && (o.take 3 == [2, 5, 29])) = true) : ∃ z, o = [2, 5, 29, z] ∧ Cert.told f o l j =
    if (z : Int) = 19 then (Cert.only (l.getD j El.none_).2.1).bind (Cert.constraints f) else if (z : Int) = 15 then (Cert.only (l.getD j El.none_).2.1).bind (Cert.usage f)
    else if (z : Int) = 37 then (Cert.only (l.getD j El.none_).2.1).bind (Cert.purposes f) else (Cert.must (decide (j = 1))).bind fun _ => some f := by
  simp only [Bool.and_eq_true, decide_eq_true_eq, beq_iff_eq] at h
  obtain ⟨h1, h2⟩ := h
  match o, h1, h2 with
  | [a, b, c, z], _, h2 =>
    simp only [List.take_succ_cons, List.take_zero, List.cons.injEq, and_true] at h2
    obtain ⟨rfl, rfl, rfl⟩ := h2
    refine ⟨z, rfl, ?_⟩
    unfold Cert.told
    simp only [List.cons.injEq, and_true, true_and]
    by_cases e1 : z = 19
    · rw [if_pos e1, if_pos (show (z : Int) = 19 by omega)]
    rw [if_neg e1, if_neg (show ¬ (z : Int) = 19 by omega)]
    by_cases e2 : z = 15
    · rw [if_pos e2, if_pos (show (z : Int) = 15 by omega)]
    rw [if_neg e2, if_neg (show ¬ (z : Int) = 15 by omega)]
    by_cases e3 : z = 37
    · rw [if_pos e3, if_pos (show (z : Int) = 37 by omega)]
    rw [if_neg e3, if_neg (show ¬ (z : Int) = 37 by omega)]

def ExtR (gc : Nat) (C : CV) (p : Fl × List UInt8) (v : Value) (w' : World) : Prop := v = .string ⟨p.2.toArray⟩ ∧ Bc w' gc {C with fl := p.1}

set_option maxHeartbeats 2000000 in
theorem extension_any (gc : Nat) (C : CV) (t : UInt8) (A1 A2 : Option Addr) (n1 c1 n2 c2 : Nat) (b r : List UInt8) (w : World) (hC : Bc w gc C) (h1 : Rd w w.heap.size A1 n1 c1 b) (hn : n1 ≤ 1099511627) :
    Calls Try.prog 70 #[.pointer (some ⟨gc, 0, none⟩), .agg #[.int .u8 (t.toNat : Int), .slice A1 n1 c1, .slice A2 n2 c2]] w (AnsC gc w (Cert.extension C.fl (t, b, r)) (ExtR gc C)) := by
  have HLB := Lib.hid h1.len
  have hgl := hC.lt
  go_enter Try.func70, Try.ntmps70
  go_wp2_with fail
  refine (parts_any t A1 A2 n1 c1 n2 c2 48 2 3 b r _ ((h1.alloc (Nat.le_refl _) _).more (by simp)) hn).mono ?_
  rintro e w1 ⟨hb1, ⟨ho, rfl⟩ | ⟨l, v, ho, rfl, L, A, n, c, rfl, hl, hE, hnl⟩⟩
  · have hbw1 : Below w.heap.size w w1 := Below.trans (by (repeat (first | exact Below.refl _ _ | assumption | (refine Below.setCell ?_ (by first | omega | (simp; done) | (simp; omega)) _) | (refine Below.alloc ?_ (by first | omega | (simp; done) | (simp; omega)) _) | (refine below_drewN ?_ _) | (refine Below.drew ?_)))) (hb1.mono (by first | omega | (simp; done) | (simp; omega)))
    have HH := Lib.hid (And.intro ho (And.intro (grows_ hbw1 (some gc)) (hC.below hbw1 hgl)))
    clear ho hb1 h1 hbw1 hC
    go_wp2
    exact ⟨rfl, AnsC.wrong (by simp only [Cert.extension, HH.out.1, Option.bind_none]) HH.out.2.1 HH.out.2.2⟩
  have hlen := must_len ho
  obtain ⟨j, rfl⟩ : ∃ j, n = j + 1 := ⟨n - 1, by omega⟩
  have hj : j = 1 ∨ j = 2 := by omega
  have hlj : l.length - 1 = j := by omega
  have hbw1 : Below w.heap.size w w1 := Below.trans (by (repeat (first | exact Below.refl _ _ | assumption | (refine Below.setCell ?_ (by first | omega | (simp; done) | (simp; omega)) _) | (refine Below.alloc ?_ (by first | omega | (simp; done) | (simp; omega)) _) | (refine below_drewN ?_ _) | (refine Below.drew ?_)))) (hb1.mono (by first | omega | (simp; done) | (simp; omega)))
  have hs1 := hb1.size
  simp only [World.size_alloc] at hs1
  obtain ⟨g, rfl, hg, hg2⟩ := hE.spot_ (by omega)
  have hE := hE.mono (lo' := w.heap.size + 1) (by simp) (Nat.le_refl _)
  obtain ⟨t0, A3, n3, c3, b0, A4, n4, c4, r0, hx0, p0, p1, p2, R0, R1, _⟩ := hE.el hl (Below.refl w1.heap.size w1) (Nat.le_refl _) 0 0 (by omega) rfl
  obtain ⟨tj, Aj, nj, cj, bj, Ak, nk, ck, rj, hxj, s0, s1, s2, Rj, _, _⟩ := hE.el hl (Below.refl w1.heap.size w1) (Nat.le_refl _) j (j * 3) (by omega) rfl
  have hsm := parts_small ho 0 hx0
  have hsmj := parts_small ho j hxj
  have hn3 : n3 ≤ 1099511627 ∧ nj ≤ 1099511627 := by have := R0.len; have := Rj.len; have := HLB.out; simp at hsm hsmj; omega
  have hspec : Hid (Cert.extension C.fl (t, b, r) = (Cert.arcs (t0, b0, r0)).bind fun o => (Cert.must (Cert.lastOk l j)).bind fun _ => (Cert.told C.fl o l j).bind fun g => some (g, b0)) := Lib.hid (by
    simp only [Cert.extension, ho, Option.bind_some, hlj, hx0])
  have H1 := Lib.hid (And.intro hbw1 (And.intro hE (And.intro hl (And.intro (hC.below hbw1 hgl) (And.intro R0 (And.intro Rj (And.intro hx0 hxj)))))))
  clear ho hb1 hbw1 h1 hE hl hlen hC R0 R1 Rj hx0 hxj hsm hsmj hnl hlj
  have hj0 : (0 : Int) ≤ j := by omega
  have hj1 : (j : Int) < (j : Int) + 1 := by omega
  go_wp2_with fail
  refine (arcs_any t0 A3 A4 n3 c3 n4 c4 b0 r0 _ H1.out.2.2.2.2.1 (by omega)).mono ?_
  rintro e w2 ⟨hb2, ⟨ho, rfl⟩ | ⟨zs, v, ho, rfl, hO⟩⟩
  · have HH := Lib.hid (And.intro ho hb2)
    clear ho hb2
    go_wp2
    exact ⟨rfl, AnsC.wrong (hspec.out.trans (by rw [HH.out.1]; rfl)) (grows_ (H1.out.1.trans (HH.out.2.mono (by omega))) _) (H1.out.2.2.2.1.below HH.out.2 (by omega))⟩
  obtain ⟨A5, c5, rfl, hc5, hcm5, hn5, hr5⟩ := hO.shape
  obtain ⟨zn, hzn⟩ : ∃ zn, zs.length = zn := ⟨_, rfl⟩
  rw [hzn] at hc5 hr5 ⊢
  have hs2 := hb2.size
  have hspec2 : Hid (Cert.extension C.fl (t, b, r) = (Cert.must (Cert.lastOk l j)).bind fun _ => (Cert.told C.fl zs l j).bind fun g => some (g, b0)) := Lib.hid (by rw [hspec.out, ho]; rfl)
  have q0 := (hb2.cell (p := ⟨g, j * 3, none⟩) hg).trans s0
  have q1 := (hb2.cell (p := ⟨g, j * 3 + 1, none⟩) hg).trans s1
  have q2 := (hb2.cell (p := ⟨g, j * 3 + 2, none⟩) hg).trans s2
  have hbw2 := H1.out.1.trans (hb2.mono (by omega))
  have H2 := Lib.hid (And.intro hb2 (And.intro hbw2 (And.intro hr5 (And.intro hzn hO))))
  clear hb2 hbw2 hO hr5 hn5 hzn ho hspec s0 s1 s2
  go_upto_region 4 with fail
  have hbx := (Below.refl w2.heap.size w2).alloc (Nat.le_refl _) (.cells #[.int .u8 (tj.toNat : Int), .slice Aj nj cj, .slice Ak nk ck] 50)
  have hb3 := Blk.new w2 50 #[.int .u8 (tj.toNat : Int), .slice Aj nj cj, .slice Ak nk ck]
  have hB3 := (H1.out.2.2.2.1.below H2.out.1 (by omega)).below hbx (by omega)
  obtain ⟨w3, hw3⟩ : ∃ w3, w2.alloc (.cells #[.int .u8 (tj.toNat : Int), .slice Aj nj cj, .slice Ak nk ck] 50) = w3 := ⟨_, rfl⟩
  rw [hw3] at hbx hb3 hB3 ⊢
  clear hw3
  have hs3 := hbx.size
  have hlt3 := hb3.lt
  have e0 := hb3.cell 0
  have e1 := hb3.cell 1
  have e2 := hb3.cell 2
  simp only [List.getElem?_toArray, List.getElem?_cons_zero, List.getElem?_cons_succ] at e0 e1 e2
  have H3 := Lib.hid (And.intro hbx (And.intro hb3 hB3))
  clear hbx hb3 hB3 q0 q1 q2
  have hlast : ∀ q : Bool, q = ((((tj.toNat : Int) == 4)) && (decide (j = 1) || Cert.yes (l.getD 1 El.none_))) → Cert.lastOk l j = q := by
    rintro q rfl
    unfold Cert.lastOk
    rw [H1.out.2.2.2.2.2.2.2]
  have HLST := Lib.hid hlast
  clear hlast
  go_cut [] from 9 (fun wx => Below w3.heap.size w3 wx ∧ Cert.lastOk l j = true)
  case first =>
    by_cases h4 : (tj.toNat : Int) = 4
    · have h4b : ((tj.toNat : Int) == 4) = true := by simp [h4]
      clear h4
      by_cases hj1 : j = 1
      · have f1 : ((j : Int) + 1 == 2) = true := by rw [hj1]; rfl
        have hl1 : Hid (Cert.lastOk l j = true) := Lib.hid (HLST.out _ (by rw [h4b, decide_eq_true hj1]; rfl))
        clear hj1 hj
        go_wp2_with fail
        refine (must_true _).mono ?_
        rintro e w' ⟨rfl, rfl⟩
        go_wp2
        go_meet
        case rel => exact ⟨Below.refl _ _, hl1.out⟩
      · have f1 : ((j : Int) + 1 == 2) = false := by simp; omega
        have f2 : (1 : Int) < (j : Int) + 1 := by omega
        have f3 : 1 < j + 1 := by omega
        obtain ⟨ty, A6, n6, c6, b6, A7, n7, c7, r7, hx1, y0, y1, y2, Y0, Y1, _⟩ := H1.out.2.1.el H1.out.2.2.1 (H2.out.1.trans (H3.out.1.mono hs2)) (Nat.le_refl _) 1 3 (by omega) rfl
        have hl1 : Hid (Cert.lastOk l j = (r7 == [1, 1, 255])) := Lib.hid (HLST.out _ (by rw [h4b, decide_eq_false hj1, hx1]; rfl))
        have HY := Lib.hid (Y1.more (B' := w3.heap.size) (by omega))
        clear hj1 hj Y0 Y1 hx1
        go_wp2_with fail
        refine (yes_any ty _ A7 n7 c7 r7 _ HY.out).mono ?_
        rintro e w4 ⟨rfl, hb4⟩
        obtain ⟨q, hq⟩ : ∃ q, (r7 == [1, 1, 255]) = q := ⟨_, rfl⟩
        rw [hq]
        have H4 := Lib.hid (And.intro hb4 (hl1.out.trans hq))
        clear hq hb4
        go_wp2_with fail
        refine (must_any _ _).mono ?_
        rintro e w' ⟨rfl, ⟨hq, rfl⟩ | ⟨hq, rfl⟩⟩
        · have HQ := Lib.hid hq
          clear hq
          go_wp2
          exact ⟨rfl, AnsC.wrong (hspec2.out.trans (by rw [must_f (H4.out.2.trans HQ.out)]; rfl)) (grows_ (H2.out.2.1.trans ((H3.out.1.mono (by omega)).trans (H4.out.1.mono (by omega)))) _) (H3.out.2.2.below H4.out.1 (by omega))⟩
        · have HQ := Lib.hid hq
          clear hq
          go_wp2
          go_meet
          case rel => exact ⟨H4.out.1, H4.out.2.trans HQ.out⟩
    · have h4b : ((tj.toNat : Int) == 4) = false := by simp [h4]
      have hl1 : Hid (Cert.lastOk l j = false) := Lib.hid (HLST.out _ (by rw [h4b]; rfl))
      clear h4
      go_wp2_with fail
      refine (must_false _).mono ?_
      rintro e w' ⟨rfl, rfl⟩
      go_wp2
      exact ⟨rfl, AnsC.wrong (hspec2.out.trans (by rw [must_f hl1.out]; rfl)) (grows_ (H2.out.2.1.trans (H3.out.1.mono (by omega))) _) H3.out.2.2⟩
  case rest =>
    obtain ⟨wd, hwd⟩ : ∃ wd, wd = wc := ⟨_, rfl⟩
    subst hwd
    obtain ⟨hb4, hlk⟩ := hcut
    have hs4 := hb4.size
    have hspec3 : Hid (Cert.extension C.fl (t, b, r) = (Cert.told C.fl zs l j).bind fun g => some (g, b0)) := Lib.hid (hspec2.out.trans (by rw [must_t hlk]; rfl))
    have H4 := Lib.hid (And.intro hb4 (And.intro (H2.out.2.1.trans ((H3.out.1.mono (by omega)).trans (hb4.mono (by omega)))) (And.intro (H3.out.2.1.below hb4 (by omega)) (H3.out.2.2.below hb4 (by omega)))))
    clear hspec2 hlk hb4 e0 e1 e2
    go_upto_region 5 with fail
    go_cut [8] from 9 (fun s8 wx => s8 = .bool (decide (zn = 4) && (zs.take 3 == [2, 5, 29])) ∧ Below wd.heap.size wd wx)
    case first =>
      by_cases hz : zn = 4
      · have f1 : ((zn : Int) == 4) = true := by rw [hz]; rfl
        have f2 : (3 : Int) ≤ (zn : Int) := by omega
        have f3 : 3 ≤ zn := by omega
        have f4 : (3 : Int) ≤ (c5 : Int) := by omega
        have f5 : 3 ≤ c5 := by omega
        have HZ4 := Lib.hid hz
        clear hz
        go_wp2_with fail
        refine (eqNums_any A5 _ 3 c5 3 3 (zs.take 3) [2, 5, 29] w2.heap.size _ _ ((by
          have h := (H2.out.2.2.1.take 3 f3)
          rw [← List.map_take] at h
          exact (h.below (H3.out.1.trans (H4.out.1.mono hs3))).alloc (by omega) _)) (reads_block wd 28 ([2, 5, 29].map uv) wd.heap.size rfl) (by simp; omega) (by simp) (by omega)).mono ?_
        rintro e w6 ⟨rfl, hb6⟩
        have hb6' : Below wd.heap.size wd w6 := Below.trans (by (repeat (first | exact Below.refl _ _ | assumption | (refine Below.setCell ?_ (by first | omega | (simp; done) | (simp; omega)) _) | (refine Below.alloc ?_ (by first | omega | (simp; done) | (simp; omega)) _) | (refine below_drewN ?_ _) | (refine Below.drew ?_)))) (hb6.mono (by simp))
        obtain ⟨q, hq⟩ : ∃ q, (zs.take 3 == [2, 5, 29]) = q := ⟨_, rfl⟩
        rw [hq]
        have H6 := Lib.hid (And.intro hq hb6')
        clear hb6 hb6' hq
        go_wp2
        go_meet
        case rel => exact ⟨by rw [decide_eq_true HZ4.out, H6.out.1]; rfl, H6.out.2⟩
      · have f1 : ((zn : Int) == 4) = false := by simp; omega
        go_wp2
        go_meet
        case rel => exact ⟨by rw [decide_eq_false hz]; rfl, Below.refl _ _⟩
    case rest =>
      obtain ⟨hk, hb5⟩ := hcut
      obtain ⟨kn, hkn⟩ : ∃ kn, (decide (zn = 4) && (zs.take 3 == [2, 5, 29])) = kn := ⟨_, rfl⟩
      rw [hkn] at hk
      subst hk
      have hs5 := hb5.size
      have HC := Lib.hid hb5
      rw [← H2.out.2.2.2.1] at hkn
      cases kn
      · have hto := told_other C.fl zs l j hkn
        have HTO := Lib.hid hto
        clear hto hkn hb5
        have hd : Hid (Cert.extension C.fl (t, b, r) = ((Cert.must (decide (j = 1))).bind fun _ => some C.fl).bind fun g => some (g, b0)) := Lib.hid (hspec3.out.trans (by rw [HTO.out]))
        by_cases hj1 : j = 1
        · have f1 : ((j : Int) + 1 == 2) = true := by rw [hj1]; rfl
          have hd2 : Hid (Cert.told C.fl zs l j = some C.fl) := Lib.hid (by rw [HTO.out, must_t (decide_eq_true hj1)]; rfl)
          clear hj1 hj
          go_wp2_with fail
          refine (must_true _).mono ?_
          rintro e w6 ⟨rfl, rfl⟩
          have HG : Hid (w1.grownBy w6 (some gc) ∧ Bc w6 gc {C with fl := C.fl} ∧ Cert.told C.fl zs l j = some C.fl) := Lib.hid ⟨grows_ (H2.out.1.trans ((H3.out.1.mono hs2).trans ((H4.out.1.mono (by omega)).trans (HC.out.mono (by omega))))) _, H4.out.2.2.2.below HC.out (by omega), hd2.out⟩
          obtain ⟨tx, B3, m3, d3, b3, B4, m4, d4, r3, hx3, z0, z1, z2, S0, S1, _⟩ := (H1.out.2.1.keepRows (KeepRows.grown HG.out.1 (by omega))).el H1.out.2.2.1 (Below.refl w1.heap.size w6) (Nat.le_refl _) 0 0 (by omega) rfl
          have kst := run_string S0 9 Try.underlying9
          have HX3 := Lib.hid hx3
          clear hx3 S0 S1 p0 p1 p2 z0 z2
          go_wp2
          go_ret
          have e : b3 = b0 := by
            have h1 := HX3.out
            have h2 := H1.out.2.2.2.2.2.2.1
            rw [h1] at h2
            injection h2 with _ h2
            injection h2 with h2 _
          subst e
          exact AnsC.right (hspec3.out.trans (by rw [HG.out.2.2]; rfl)) ((grows_ H1.out.1 (some gc)).trans HG.out.1) ⟨rfl, HG.out.2.1⟩
        · have f1 : ((j : Int) + 1 == 2) = false := by simp; omega
          have hd2 : Hid (Cert.extension C.fl (t, b, r) = none) := Lib.hid (hd.out.trans (by rw [must_f (decide_eq_false hj1)]; rfl))
          clear hj1 hj
          go_wp2_with fail
          refine (must_false _).mono ?_
          rintro e w6 ⟨rfl, rfl⟩
          go_wp2
          exact ⟨rfl, AnsC.wrong hd2.out (grows_ (H4.out.2.1.trans (HC.out.mono (by omega))) _) (H4.out.2.2.2.below HC.out (by omega))⟩
      · obtain ⟨z, hzs, hto⟩ := told_four C.fl zs l j hkn
        subst hzs
        obtain rfl : zn = 4 := by have := H2.out.2.2.2.1; simp at this; omega
        have HTO := Lib.hid hto
        obtain ⟨ad5, e5, _, hc5⟩ := (H2.out.2.2.1.below (H3.out.1.trans ((H4.out.1.mono hs3).trans (HC.out.mono (by omega))))).2 (by omega)
        obtain ⟨g5, _, e6, _, _⟩ := H2.out.2.2.2.2.1.form (by simp)
        injection e6 with e6 e7 e8
        clear e7 e8
        subst e6
        injection e5 with e5
        subst e5
        have hz3 := hc5 3 (uv z) rfl
        rw [Addr.add_lit, Nat.zero_add] at hz3
        clear hc5 hto hkn hb5
        have hz4 : wc.cell? ⟨g5, 3, none⟩ = some (.int .u64 (z : Int)) := hz3
        clear hz3
        have HRJ := Lib.hid (((H1.out.2.2.2.2.2.1.below (H2.out.1.trans ((H3.out.1.mono hs2).trans ((H4.out.1.mono (by omega)).trans (HC.out.mono (by omega))))) ).more (B' := wc.heap.size) (by omega)))
        have hlastB := H4.out.2.2.1.below HC.out (by omega)
        have e0 := hlastB.cell 0
        have e1 := hlastB.cell 1
        have e2 := hlastB.cell 2
        simp only [List.getElem?_toArray, List.getElem?_cons_zero, List.getElem?_cons_succ] at e0 e1 e2
        clear hlastB
        apply_assumption
        refine wp_seq_k fun K hK => ?_
        go_cut [] from 9 (fun wx => ∃ f, w1.grownBy wx (some gc) ∧ Bc wx gc {C with fl := f} ∧ Cert.told C.fl [2, 5, 29, z] l j = some f)
        case first =>
          by_cases a1 : (z : Int) = 19
          · have f1 : ((z : Int) == 19) = true := by simp [a1]
            have hto : Hid (Cert.told C.fl [2, 5, 29, z] l j = (Cert.only bj).bind (Cert.constraints C.fl)) := Lib.hid (by rw [HTO.out, if_pos a1, H1.out.2.2.2.2.2.2.2])
            clear a1
            go_wp2_with fail
            refine (only_any Aj nj cj bj _ HRJ.out (by omega)).mono ?_
            rintro e w6 ⟨hb6, ⟨ho, rfl⟩ | ⟨⟨t2, b2, r2⟩, v, ho, rfl, A9, n9, c9, Aa, na, ca, rfl, hO⟩⟩
            · have HH := Lib.hid (And.intro ho hb6)
              clear ho hb6
              go_wp2
              exact ⟨rfl, AnsC.wrong (hspec3.out.trans (by rw [hto.out, HH.out.1]; rfl)) (grows_ ((H4.out.2.1.trans (HC.out.mono (by omega))).trans (HH.out.2.mono (by omega))) _) ((H4.out.2.2.2.below HC.out (by omega)).below HH.out.2 (by omega))⟩
            have hs6 := hb6.size
            have hn9 : n9 ≤ 1099511627 := by have := only_len ho; have := HRJ.out.len; obtain ⟨m, h1, h2, _⟩ := hO; have := ownB_len h2; simp at *; omega
            have hR9 := (hO.rd (by simp : (Value.slice A9 n9 c9, b2) ∈ _)).rd
            obtain ⟨A8', n8', c8', e, hR9⟩ := hR9
            injection e with e1 e2 e3
            subst e1 e2 e3
            have H6 := Lib.hid (And.intro hb6 (And.intro hR9 (And.intro ((H4.out.2.2.2.below HC.out (by omega)).below hb6 (by omega)) (And.intro ((H4.out.2.1.trans (HC.out.mono (by omega))).trans (hb6.mono (by omega))) (show Cert.told C.fl [2, 5, 29, z] l j = Cert.constraints C.fl (t2, b2, r2) by rw [hto.out, ho]; rfl)))))
            clear ho hb6 hO hR9
            go_wp2_with fail
            refine (constraints_any gc C t2 A9 Aa n9 c9 na ca b2 r2 _ H6.out.2.2.1 H6.out.2.1 hn9).mono ?_
            rintro e w7 ⟨hg7, ⟨ho, rfl, C', hC'⟩ | ⟨f, v, ho, rfl, rfl, hC'⟩⟩
            · have HH := Lib.hid (And.intro ho (And.intro hg7 hC'))
              clear ho hg7 hC'
              go_wp2
              exact ⟨rfl, AnsC.wrong (hspec3.out.trans (by rw [H6.out.2.2.2.2, HH.out.1]; rfl)) ((grows_ H6.out.2.2.2.1 _).trans HH.out.2.1) HH.out.2.2⟩
            have HH := Lib.hid (And.intro ho (And.intro hg7 hC'))
            clear ho hg7 hC'
            go_wp2
            go_meet
            case rel => exact ⟨f, (grows_ (H2.out.1.trans ((H3.out.1.mono hs2).trans ((H4.out.1.mono (by omega)).trans ((HC.out.mono (by omega)).trans (H6.out.1.mono (by omega)))))) _).trans HH.out.2.1, HH.out.2.2, H6.out.2.2.2.2.trans HH.out.1⟩
          have f1 : ((z : Int) == 19) = false := by simp [a1]
          by_cases a2 : (z : Int) = 15
          · have f2 : ((z : Int) == 15) = true := by simp [a2]
            have hto : Hid (Cert.told C.fl [2, 5, 29, z] l j = (Cert.only bj).bind (Cert.usage C.fl)) := Lib.hid (by rw [HTO.out, if_neg a1, if_pos a2, H1.out.2.2.2.2.2.2.2])
            clear a2
            go_wp2_with fail
            refine (only_any Aj nj cj bj _ HRJ.out (by omega)).mono ?_
            rintro e w6 ⟨hb6, ⟨ho, rfl⟩ | ⟨⟨t2, b2, r2⟩, v, ho, rfl, A9, n9, c9, Aa, na, ca, rfl, hO⟩⟩
            · have HH := Lib.hid (And.intro ho hb6)
              clear ho hb6
              go_wp2
              exact ⟨rfl, AnsC.wrong (hspec3.out.trans (by rw [hto.out, HH.out.1]; rfl)) (grows_ ((H4.out.2.1.trans (HC.out.mono (by omega))).trans (HH.out.2.mono (by omega))) _) ((H4.out.2.2.2.below HC.out (by omega)).below HH.out.2 (by omega))⟩
            have hs6 := hb6.size
            have hn9 : n9 ≤ 1099511627 := by have := only_len ho; have := HRJ.out.len; obtain ⟨m, h1, h2, _⟩ := hO; have := ownB_len h2; simp at *; omega
            have hR9 := (hO.rd (by simp : (Value.slice A9 n9 c9, b2) ∈ _)).rd
            obtain ⟨A8', n8', c8', e, hR9⟩ := hR9
            injection e with e1 e2 e3
            subst e1 e2 e3
            have H6 := Lib.hid (And.intro hb6 (And.intro hR9 (And.intro ((H4.out.2.2.2.below HC.out (by omega)).below hb6 (by omega)) (And.intro ((H4.out.2.1.trans (HC.out.mono (by omega))).trans (hb6.mono (by omega))) (show Cert.told C.fl [2, 5, 29, z] l j = Cert.usage C.fl (t2, b2, r2) by rw [hto.out, ho]; rfl)))))
            clear ho hb6 hO hR9
            go_wp2_with fail
            refine (usage_any gc C t2 A9 Aa n9 c9 na ca b2 r2 _ H6.out.2.2.1 H6.out.2.1 hn9).mono ?_
            rintro e w7 ⟨hg7, ⟨ho, rfl, C', hC'⟩ | ⟨f, v, ho, rfl, rfl, hC'⟩⟩
            · have HH := Lib.hid (And.intro ho (And.intro hg7 hC'))
              clear ho hg7 hC'
              go_wp2
              exact ⟨rfl, AnsC.wrong (hspec3.out.trans (by rw [H6.out.2.2.2.2, HH.out.1]; rfl)) ((grows_ H6.out.2.2.2.1 _).trans HH.out.2.1) HH.out.2.2⟩
            have HH := Lib.hid (And.intro ho (And.intro hg7 hC'))
            clear ho hg7 hC'
            go_wp2
            go_meet
            case rel => exact ⟨f, (grows_ (H2.out.1.trans ((H3.out.1.mono hs2).trans ((H4.out.1.mono (by omega)).trans ((HC.out.mono (by omega)).trans (H6.out.1.mono (by omega)))))) _).trans HH.out.2.1, HH.out.2.2, H6.out.2.2.2.2.trans HH.out.1⟩
          have f2 : ((z : Int) == 15) = false := by simp [a2]
          by_cases a3 : (z : Int) = 37
          · have f3 : ((z : Int) == 37) = true := by simp [a3]
            have hto : Hid (Cert.told C.fl [2, 5, 29, z] l j = (Cert.only bj).bind (Cert.purposes C.fl)) := Lib.hid (by rw [HTO.out, if_neg a1, if_neg a2, if_pos a3, H1.out.2.2.2.2.2.2.2])
            clear a3
            go_wp2_with fail
            refine (only_any Aj nj cj bj _ HRJ.out (by omega)).mono ?_
            rintro e w6 ⟨hb6, ⟨ho, rfl⟩ | ⟨⟨t2, b2, r2⟩, v, ho, rfl, A9, n9, c9, Aa, na, ca, rfl, hO⟩⟩
            · have HH := Lib.hid (And.intro ho hb6)
              clear ho hb6
              go_wp2
              exact ⟨rfl, AnsC.wrong (hspec3.out.trans (by rw [hto.out, HH.out.1]; rfl)) (grows_ ((H4.out.2.1.trans (HC.out.mono (by omega))).trans (HH.out.2.mono (by omega))) _) ((H4.out.2.2.2.below HC.out (by omega)).below HH.out.2 (by omega))⟩
            have hs6 := hb6.size
            have hn9 : n9 ≤ 1099511627 := by have := only_len ho; have := HRJ.out.len; obtain ⟨m, h1, h2, _⟩ := hO; have := ownB_len h2; simp at *; omega
            have hR9 := (hO.rd (by simp : (Value.slice A9 n9 c9, b2) ∈ _)).rd
            obtain ⟨A8', n8', c8', e, hR9⟩ := hR9
            injection e with e1 e2 e3
            subst e1 e2 e3
            have H6 := Lib.hid (And.intro hb6 (And.intro hR9 (And.intro ((H4.out.2.2.2.below HC.out (by omega)).below hb6 (by omega)) (And.intro ((H4.out.2.1.trans (HC.out.mono (by omega))).trans (hb6.mono (by omega))) (show Cert.told C.fl [2, 5, 29, z] l j = Cert.purposes C.fl (t2, b2, r2) by rw [hto.out, ho]; rfl)))))
            clear ho hb6 hO hR9
            go_wp2_with fail
            refine (purposes_any gc C t2 A9 Aa n9 c9 na ca b2 r2 _ H6.out.2.2.1 H6.out.2.1 hn9).mono ?_
            rintro e w7 ⟨hg7, ⟨ho, rfl, C', hC'⟩ | ⟨f, v, ho, rfl, rfl, hC'⟩⟩
            · have HH := Lib.hid (And.intro ho (And.intro hg7 hC'))
              clear ho hg7 hC'
              go_wp2
              exact ⟨rfl, AnsC.wrong (hspec3.out.trans (by rw [H6.out.2.2.2.2, HH.out.1]; rfl)) ((grows_ H6.out.2.2.2.1 _).trans HH.out.2.1) HH.out.2.2⟩
            have HH := Lib.hid (And.intro ho (And.intro hg7 hC'))
            clear ho hg7 hC'
            go_wp2
            go_meet
            case rel => exact ⟨f, (grows_ (H2.out.1.trans ((H3.out.1.mono hs2).trans ((H4.out.1.mono (by omega)).trans ((HC.out.mono (by omega)).trans (H6.out.1.mono (by omega)))))) _).trans HH.out.2.1, HH.out.2.2, H6.out.2.2.2.2.trans HH.out.1⟩
          have f3 : ((z : Int) == 37) = false := by simp [a3]
          have hd : Hid (Cert.told C.fl [2, 5, 29, z] l j = (Cert.must (decide (j = 1))).bind fun _ => some C.fl) := Lib.hid (by rw [HTO.out, if_neg a1, if_neg a2, if_neg a3])
          clear a1 a2 a3
          by_cases hj1 : j = 1
          · have f5 : ((j : Int) + 1 == 2) = true := by rw [hj1]; rfl
            have hd2 : Hid (Cert.told C.fl [2, 5, 29, z] l j = some C.fl) := Lib.hid (by rw [hd.out, must_t (decide_eq_true hj1)]; rfl)
            clear hj1 hj
            go_wp2_with fail
            refine (must_true _).mono ?_
            rintro e w6 ⟨rfl, rfl⟩
            go_wp2
            go_meet
            case rel => exact ⟨C.fl, grows_ (H2.out.1.trans ((H3.out.1.mono hs2).trans ((H4.out.1.mono (by omega)).trans (HC.out.mono (by omega))))) _, H4.out.2.2.2.below HC.out (by omega), hd2.out⟩
          · have f5 : ((j : Int) + 1 == 2) = false := by simp; omega
            have hd2 : Hid (Cert.extension C.fl (t, b, r) = none) := Lib.hid (hspec3.out.trans (by rw [hd.out, must_f (decide_eq_false hj1)]; rfl))
            clear hj1 hj
            go_wp2_with fail
            refine (must_false _).mono ?_
            rintro e w6 ⟨rfl, rfl⟩
            go_wp2
            exact ⟨rfl, AnsC.wrong hd2.out (grows_ (H4.out.2.1.trans (HC.out.mono (by omega))) _) (H4.out.2.2.2.below HC.out (by omega))⟩
        case rest =>
          obtain ⟨we, hwe⟩ : ∃ we, we = wc := ⟨_, rfl⟩
          clear HC e0 e1 e2 HRJ hz4 hs5
          obtain ⟨f, hG⟩ := hcut
          have HG := Lib.hid hG
          clear hG
          obtain ⟨tx, B3, m3, d3, b3, B4, m4, d4, r3, hx3, z0, z1, z2, S0, S1, _⟩ := (H1.out.2.1.keepRows (KeepRows.grown HG.out.1 (by omega))).el H1.out.2.2.1 (Below.refl w1.heap.size _) (Nat.le_refl _) 0 0 (by omega) rfl
          have kst := run_string S0 9 Try.underlying9
          have HX3 := Lib.hid hx3
          clear hx3 S0 S1 p0 p1 p2 z0 z2
          go_wp2
          go_ret
          have e : b3 = b0 := by
            have h1 := HX3.out
            have h2 := H1.out.2.2.2.2.2.2.1
            rw [h1] at h2
            injection h2 with _ h2
            injection h2 with h2 _
          subst e
          exact AnsC.right (hspec3.out.trans (by rw [HG.out.2.2]; rfl)) ((grows_ H1.out.1 (some gc)).trans HG.out.1) ⟨rfl, HG.out.2.1⟩
end Go.Proofs.Ytmnekhliblkibaa
end
