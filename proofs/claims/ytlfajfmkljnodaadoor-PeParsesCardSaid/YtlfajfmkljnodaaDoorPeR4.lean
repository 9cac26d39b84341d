/- The reference's reading: sections by where they lie. -/
import Derived.Test.YtlfajfmkljnodaaDoorPeR1
import Derived.Test.YtlfajfmkljnodaaDoorPE
namespace Go.Proofs.YtlfajfmkljnodaaDoor
open Go.RowKit
set_option maxRecDepth 100000
set_option linter.unusedVariables false
set_option linter.unusedSimpArgs false
theorem reads_twoR (w : World) (t : TypeId) (a b : Value) (q : Nat) (hq : q = w.heap.size) : Reads (w.alloc (.cells #[a, b] t)) (q + 1) 2 (some ⟨q, 0, none⟩) 1 [a, b] := by
  subst hq
  refine ⟨rfl, fun _ => ⟨_, rfl, by simp, fun j x hx => ?_⟩⟩
  rw [Addr.add_lit]
  have := (Blk.new w t #[a, b]).cell (0 + j)
  rw [this, Nat.zero_add]
  simpa using hx
theorem secC_set : ∀ (l : List (Nat × Nat)) (k : Nat) (x : Nat × Nat), ((l.flatMap secC).set (k * 2) (.int .u32 (x.1 : Int))).set (k * 2 + 1) (.int .u32 (x.2 : Int)) = (l.set k x).flatMap secC
  | [], k, x => by simp
  | y :: l, 0, x => by simp [secC]
  | y :: l, k + 1, x => by
    have ih := secC_set l k x
    rw [List.flatMap_cons, show (k + 1) * 2 = k * 2 + 1 + 1 by omega, List.set_cons_succ, List.flatMap_cons, ← ih]
    simp [secC]
theorem OwnC.stored2 {w : World} {lo hi g n cap : Nat} {l : List (Nat × Nat)} (h : OwnC 43 2 w lo hi (.slice (some ⟨g, 0, none⟩) n cap) n (l.flatMap secC)) (k : Nat) (x : Nat × Nat) :
    OwnC 43 2 ((w.setCell ⟨g, k * 2, none⟩ (.int .u32 (x.1 : Int))).setCell ⟨g, k * 2 + 1, none⟩ (.int .u32 (x.2 : Int))) lo hi (.slice (some ⟨g, 0, none⟩) n cap) n ((l.set k x).flatMap secC) := by
  have h1 := (h.1.stored (k * 2) (.int .u32 (x.1 : Int))).1
  have h2 := (h1.stored (k * 2 + 1) (.int .u32 (x.2 : Int))).1
  rw [secC_set] at h2
  exact ⟨h2, h.2⟩
namespace Pe
theorem ins_perm {S m : List (Nat × Nat)} {x : Nat × Nat} (k : Nat) (h : S.Perm m) : (S.take k ++ x :: S.drop k).Perm (m ++ [x]) := by
  refine List.perm_middle.trans ?_
  rw [List.take_append_drop]
  exact (h.cons x).trans (List.perm_append_singleton x m).symm
theorem ins_rise {S : List (Nat × Nat)} {x : Nat × Nat} {k : Nat} (h : Rising S) (hk : k ≤ S.length) (h1 : ∀ y ∈ S.drop k, x.1 < y.1) (h2 : ∀ y, 0 < k → S[k - 1]? = some y → y.1 ≤ x.1) : Rising (S.take k ++ x :: S.drop k) := by
  have hS : Rising (S.take k ++ S.drop k) := by rw [List.take_append_drop]; exact h
  unfold Rising at hS ⊢
  obtain ⟨p1, p2, p3⟩ := List.pairwise_append.1 hS
  refine List.pairwise_append.2 ⟨p1, List.pairwise_cons.2 ⟨fun y hy => Nat.le_of_lt (h1 y hy), p2⟩, fun a ha b hb => ?_⟩
  rcases List.mem_cons.1 hb with rfl | hb
  · rcases Nat.eq_zero_or_pos k with h0 | h0
    · subst h0; simp at ha
    · obtain ⟨y, hy⟩ : ∃ y, S[k - 1]? = some y := ⟨_, List.getElem?_eq_getElem (by omega)⟩
      have hyx := h2 y h0 hy
      obtain ⟨j, hj⟩ := List.getElem?_of_mem ha
      rw [List.getElem?_take] at hj
      split at hj
      · rename_i hjk
        rcases Nat.lt_or_ge j (k - 1) with h3 | h3
        · obtain ⟨g1, g2⟩ := List.getElem?_eq_some_iff.1 hj
          obtain ⟨g3, g4⟩ := List.getElem?_eq_some_iff.1 hy
          have := List.pairwise_iff_getElem.1 h j (k - 1) g1 g3 h3
          rw [g2, g4] at this
          omega
        · have : j = k - 1 := by omega
          subst this
          rw [hy] at hj
          injection hj with hj
          subst hj
          exact hyx
      · cases hj
  · exact p3 a ha b hb
theorem ins_at {S : List (Nat × Nat)} {x : Nat × Nat} {k : Nat} (hk : k ≤ S.length) : (S.take k ++ x :: S.drop k)[k]? = some x := by
  rw [List.getElem?_append_right (by rw [List.length_take]; omega), List.length_take, show k - min k S.length = 0 by omega]
  rfl
theorem ins_ahead {S : List (Nat × Nat)} {x y : Nat × Nat} {k : Nat} (h0 : 0 < k) (hk : k ≤ S.length) (hy : S[k - 1]? = some y) : (S.take k ++ x :: S.drop k)[k - 1]? = some y := by
  rw [List.getElem?_append_left (by rw [List.length_take]; omega), List.getElem?_take, if_pos (by omega)]
  exact hy
theorem ins_step {S : List (Nat × Nat)} {x y : Nat × Nat} {k : Nat} (h0 : 0 < k) (hk : k ≤ S.length) (hy : S[k - 1]? = some y) : (((S.take k ++ x :: S.drop k).set k y).set (k - 1) x) = S.take (k - 1) ++ x :: S.drop (k - 1) := by
  obtain ⟨j, rfl⟩ : ∃ j, k = j + 1 := ⟨k - 1, by omega⟩
  have hj : j + 1 - 1 = j := by omega
  rw [hj] at hy ⊢
  have e1 : S.take (j + 1) = S.take j ++ [y] := take_snoc hy
  obtain ⟨g1, g2⟩ := List.getElem?_eq_some_iff.1 hy
  have e2 : S.drop j = y :: S.drop (j + 1) := by rw [List.drop_eq_getElem_cons g1, g2]
  have hl : (S.take j).length = j := by rw [List.length_take]; omega
  rw [e1, e2, List.append_assoc, List.set_append_right _ _ (by omega), hl, show j + 1 - j = 1 by omega]
  rw [List.set_append_right _ _ (by omega), hl, Nat.sub_self]
  rfl
end Pe
set_option maxHeartbeats 4000000 in
theorem riseR_any (A : Option Addr) (n c : Nat) (l : List (Nat × Nat)) (w : World) (h : RdS w w.heap.size A n c l) (hn : n ≤ 1000) :
    Calls Tryd.prog 45 #[.slice A n c] w fun e w' => Below w.heap.size w w' ∧ ∃ v : Value, e = .returned v ∧ ∃ S : List (Nat × Nat), S.Perm l ∧ Pe.Rising S ∧ OwnC 43 2 w' w.heap.size w'.heap.size v n (S.flatMap secC) := by
  have hl := h.len
  have H := Lib.hid h
  clear h
  go_enter Tryd.func45, Tryd.ntmps45
  go_wp2_with fail
  go_loopw [3, 4, 5] (fun v i _ wr => ∃ (j : Nat) (S : List (Nat × Nat)), j ≤ n ∧ i = .int .i64 (j : Int) ∧ S.Perm (l.take j) ∧ Pe.Rising S ∧ OwnC 43 2 wr w.heap.size wr.heap.size v j (S.flatMap secC) ∧ Below w.heap.size w wr) (fun _ i _ _ => n - (intOf i).toNat)
  case atStart => exact ⟨0, [], Nat.zero_le _, rfl, by simp, List.Pairwise.nil, OwnC.nil_, Below.refl _ _⟩
  case round =>
    obtain ⟨j, S, hj, rfl, hp, hr, ho, hb⟩ := hrel
    by_cases hlt : j < n
    · have hlt' : (j : Int) < n := by omega
      obtain ⟨b, o, ⟨x1, x2⟩, rfl, hbB, hx, q1, q2⟩ := (H.out.below hb).get hlt
      dsimp only at q1 q2
      have hSl : S.length = j := by have := hp.length_eq; rw [List.length_take] at this; omega
      have HI := Lib.hid (And.intro hp (And.intro hr (And.intro ho (And.intro hb (And.intro hx hSl)))))
      have hsz := hb.size
      clear hp hr ho hb hx hSl
      go_upto_region 6 with (first
        | (at_builtin
           refine wpList_appC rfl (.tmp 12) (.tmp 17) 25 rfl 43 _ 2 8 sec_info Tryd.underlying25 rfl (by omega) w.heap.size wr.heap.size _ j (S.flatMap secC) rfl (HI.out.2.2.1.alloc (Nat.le_refl _) _) (by simp; omega) _ _ 1 1 [.int .u32 (x1 : Int), .int .u32 (x2 : Int)] rfl (reads_twoR _ _ _ _ _ (by simp)) (by simp [Value.oneCell']) (by omega) (by omega) ?_
           intro v2 w2 ho2 hg2 hat2 hb2
           have HA := Lib.hid (And.intro ho2 ((HI.out.2.2.2.1.alloc hsz (.cells #[.int .u32 (x1 : Int), .int .u32 (x2 : Int)] 43)).trans hb2))
           clear ho2 hg2 hat2 hb2)
        | fail)
      have hO2 : OwnC 43 2 w2 w.heap.size w2.heap.size v2 (j + 1) ((S.take j ++ (x1, x2) :: S.drop j).flatMap secC) := by
        have h1 := HA.out.1
        rw [List.take_of_length_le (by rw [HI.out.2.2.2.2.2]; exact Nat.le_refl _), List.drop_of_length_le (by rw [HI.out.2.2.2.2.2]; exact Nat.le_refl _), List.flatMap_append]
        simpa [secC] using h1
      obtain ⟨g, cap, ev, _, _⟩ := hO2.1.form (by omega)
      subst ev
      have hg := hO2.1.lt g rfl
      have HB := Lib.hid hO2
      clear hO2
      go_wp2_with fail
      go_loopw [5] (fun i wq => ∃ k : Nat, k ≤ j ∧ i = .int .i64 (k : Int) ∧ (∀ y ∈ S.drop k, x1 < y.1) ∧ OwnC 43 2 wq w.heap.size w2.heap.size (.slice (some ⟨g, 0, none⟩) (j + 1) cap) (j + 1) ((S.take k ++ (x1, x2) :: S.drop k).flatMap secC) ∧ w2.grownBy wq (some g)) (fun i _ => (intOf i).toNat)
      case atStart => exact ⟨j, Nat.le_refl _, by go_num, (fun y hy => by rw [List.drop_of_length_le (by rw [HI.out.2.2.2.2.2]; exact Nat.le_refl _)] at hy; cases hy), HB.out, grown_refl _ _⟩
      case round =>
        obtain ⟨k, hk, rfl, hlow, hO, hgr⟩ := hrel
        have hsq := hgr.size
        have hbq : Below w.heap.size w wr := HA.out.2.grown hgr HA.out.2.size (fun k e => by injection e with e; omega)
        obtain ⟨b', o', ⟨y1, y2⟩, e, hbB', hx', t1, t2⟩ := (H.out.below hbq).get hlt
        have e3 : b = b' ∧ o = o' := by
          injection e with e
          injection e with e1 e2
          exact ⟨e1, e2⟩
        obtain ⟨rfl, rfl⟩ := e3
        have e4 : (x1, x2) = (y1, y2) := Option.some.inj (HI.out.2.2.2.2.1.symm.trans hx')
        injection e4 with e5 e6
        subst e5 e6
        dsimp only at t1 t2
        have hSl := HI.out.2.2.2.2.2
        by_cases h0 : k = 0
        · subst h0
          have hmem := hlow
          have HQ := Lib.hid (And.intro hlow (And.intro hO (And.intro hgr hbq)))
          clear hlow hO hgr hbq hmem
          go_upto_region 7 with fail
          go_quiet (fail)
          go_wp2_with fail
          go_roundw
          case rel => exact ⟨j + 1, _, by omega, by go_num, (by rw [take_snoc HI.out.2.2.2.2.1]; exact Pe.ins_perm 0 HI.out.1), Pe.ins_rise HI.out.2.1 (by omega) HQ.out.1 (fun y h1 => absurd h1 (by omega)), (HQ.out.2.1.keep fun _ _ _ => rfl).mono (Nat.le_refl _) (by simp; omega), below_drewN HQ.out.2.2.2 _⟩
          case measure => simp [intOf]; omega
        · obtain ⟨⟨z1, z2⟩, hz⟩ : ∃ y, S[k - 1]? = some y := ⟨_, List.getElem?_eq_getElem (by omega)⟩
          obtain ⟨kk, rfl⟩ : ∃ kk, k = kk + 1 := ⟨k - 1, by omega⟩
          rw [Nat.add_sub_cancel] at hz
          have hk0 : (0 : Int) < (kk : Int) + 1 := by omega
          have hk0d : decide ((0 : Int) < (kk : Int) + 1) = true := decide_eq_true hk0
          have hki : (kk : Int) + 1 - 1 = (kk : Int) := by omega
          have hzk := Pe.ins_ahead (S := S) (x := (x1, x2)) (y := (z1, z2)) (k := kk + 1) (by omega) (by omega) hz
          rw [Nat.add_sub_cancel] at hzk
          have hxk := Pe.ins_at (S := S) (x := (x1, x2)) (k := kk + 1) (by omega)
          obtain ⟨s0, s1⟩ := secC_get _ kk _ hzk
          obtain ⟨r0, r1⟩ := secC_get _ (kk + 1) _ hxk
          have fl : ((S.take (kk + 1) ++ (x1, x2) :: S.drop (kk + 1)).flatMap secC).length = (j + 1) * 2 := hO.1.1
          have hcell : ∀ (W : World) (hO' : OwnC 43 2 W w.heap.size w2.heap.size (.slice (some ⟨g, 0, none⟩) (j + 1) cap) (j + 1) ((S.take (kk + 1) ++ (x1, x2) :: S.drop (kk + 1)).flatMap secC)), W.cell? ⟨g, kk * 2, none⟩ = some (.int .u32 (z1 : Int)) ∧ W.cell? ⟨g, kk * 2 + 1, none⟩ = some (.int .u32 (z2 : Int)) ∧ W.cell? ⟨g, (kk + 1) * 2, none⟩ = some (.int .u32 (x1 : Int)) ∧ W.cell? ⟨g, (kk + 1) * 2 + 1, none⟩ = some (.int .u32 (x2 : Int)) := fun W hO' =>
            ⟨(hO'.1.cellAt _ (by omega)).trans s0, (hO'.1.cellAt _ (by omega)).trans s1, (hO'.1.cellAt _ (by omega)).trans r0, (hO'.1.cellAt _ (by omega)).trans r1⟩
          obtain ⟨c0, c1, c2, c3⟩ := hcell wr hO
          have HQ := Lib.hid (And.intro hlow (And.intro hO (And.intro hgr (And.intro hbq (And.intro hz hcell)))))
          clear hlow hO hgr hbq hz hcell hzk hxk s0 s1 r0 r1 fl
          by_cases hgt : x1 < z1
          · have hgt' : (x1 : Int) < z1 := by omega
            have hgd : decide ((x1 : Int) < (z1 : Int)) = true := by simp; omega
            go_upto_region 7 with fail
            go_quiet (fail)
            obtain ⟨wd, hwd⟩ : ∃ x, wr.drewN nq = x := ⟨_, rfl⟩
            have hOd : OwnC 43 2 wd w.heap.size w2.heap.size (.slice (some ⟨g, 0, none⟩) (j + 1) cap) (j + 1) ((S.take (kk + 1) ++ (x1, x2) :: S.drop (kk + 1)).flatMap secC) := by rw [← hwd]; exact HQ.out.2.1.keep fun _ _ _ => rfl
            have hgd' : w2.grownBy wd (some g) := by rw [← hwd]; have hgr := HQ.out.2.2.1; exact ⟨hgr.os, hgr.tape, hgr.output, hgr.size, hgr.block⟩
            rw [hwd]
            clear hwd c0 c1 c2 c3 hgd hk0d
            obtain ⟨c0, c1, c2, c3⟩ := HQ.out.2.2.2.2.2 wd hOd
            have f0 := hOd.1.frozenAt ((kk + 1) * 2)
            have f1 := hOd.1.frozenAt ((kk + 1) * 2 + 1)
            obtain ⟨W1, hW1⟩ : ∃ W, (wd.setCell ⟨g, (kk + 1) * 2, none⟩ (.int .u32 (z1 : Int))).setCell ⟨g, (kk + 1) * 2 + 1, none⟩ (.int .u32 (z2 : Int)) = W := ⟨_, rfl⟩
            have hO1 : OwnC 43 2 W1 w.heap.size w2.heap.size (.slice (some ⟨g, 0, none⟩) (j + 1) cap) (j + 1) (((S.take (kk + 1) ++ (x1, x2) :: S.drop (kk + 1)).set (kk + 1) (z1, z2)).flatMap secC) := by rw [← hW1]; exact hOd.stored2 (kk + 1) (z1, z2)
            have hg1 : w2.grownBy W1 (some g) := by rw [← hW1]; exact grownBy_store (grownBy_store hgd' _ _) _ _
            have hb1 : Below w.heap.size w W1 := HA.out.2.grown hg1 HA.out.2.size (fun k e => by injection e with e; omega)
            have t1' : W1.cell? ⟨b, o + j * 2, none⟩ = some (.int .u32 (x1 : Int)) := (hb1.cell (p := ⟨b, o + j * 2, none⟩) hbB).trans ((HQ.out.2.2.2.1.cell (p := ⟨b, o + j * 2, none⟩) hbB).symm.trans t1)
            have t2' : W1.cell? ⟨b, o + j * 2 + 1, none⟩ = some (.int .u32 (x2 : Int)) := (hb1.cell (p := ⟨b, o + j * 2 + 1, none⟩) hbB).trans ((HQ.out.2.2.2.1.cell (p := ⟨b, o + j * 2 + 1, none⟩) hbB).symm.trans t2)
            have HW := Lib.hid (And.intro hO1 (And.intro hg1 hb1))
            clear hO1 hg1 hb1 hOd hgd' t1 t2
            go_upto_region 10 with fail
            clear hW1 c0 c1 c2 c3 f0 f1
            have hlen1 : (((S.take (kk + 1) ++ (x1, x2) :: S.drop (kk + 1)).set (kk + 1) (z1, z2)).flatMap secC).length = (j + 1) * 2 := HW.out.1.1.1
            obtain ⟨u0, hu0⟩ : ∃ u, W1.cell? ⟨g, kk * 2, none⟩ = some u := ⟨_, (HW.out.1.1.cellAt _ (by omega)).trans (List.getElem?_eq_getElem (by omega))⟩
            obtain ⟨u1, hu1⟩ : ∃ u, W1.cell? ⟨g, kk * 2 + 1, none⟩ = some u := ⟨_, (HW.out.1.1.cellAt _ (by omega)).trans (List.getElem?_eq_getElem (by omega))⟩
            have f0 := HW.out.1.1.frozenAt (kk * 2)
            have f1 := HW.out.1.1.frozenAt (kk * 2 + 1)
            have hO2 := HW.out.1.stored2 kk (x1, x2)
            have hst := Pe.ins_step (S := S) (x := (x1, x2)) (y := (z1, z2)) (k := kk + 1) (by omega) (by omega) (by rw [Nat.add_sub_cancel]; exact HQ.out.2.2.2.2.1)
            rw [Nat.add_sub_cancel] at hst
            rw [hst] at hO2
            have hlow' : ∀ y ∈ S.drop kk, x1 < y.1 := fun y hy => by
              obtain ⟨e1, e2⟩ := List.getElem?_eq_some_iff.1 HQ.out.2.2.2.2.1
              rw [List.drop_eq_getElem_cons e1, e2] at hy
              rcases List.mem_cons.1 hy with rfl | hy
              · exact hgt
              · exact HQ.out.1 y hy
            have HV := Lib.hid (And.intro hO2 (And.intro hlow' (grownBy_store (grownBy_store HW.out.2.1 (kk * 2) (.int .u32 (x1 : Int))) (kk * 2 + 1) (.int .u32 (x2 : Int)))))
            clear hlen1 hO2 hst hlow'
            go_wp2_with fail
            go_roundw
            case rel => exact ⟨kk, by omega, by go_num, HV.out.2.1, HV.out.1, HV.out.2.2⟩
            case measure => simp [intOf]
          · have hgt' : ¬ ((x1 : Int) < z1) := by omega
            have hgd : decide ((x1 : Int) < (z1 : Int)) = false := by simp; omega
            go_upto_region 7 with fail
            go_quiet (fail)
            go_wp2_with fail
            go_roundw
            case rel => exact ⟨j + 1, _, by omega, by go_num, (by rw [take_snoc HI.out.2.2.2.2.1]; exact Pe.ins_perm (kk + 1) HI.out.1), Pe.ins_rise HI.out.2.1 (by omega) HQ.out.1 (fun y _ h1 => by rw [Nat.add_sub_cancel, HQ.out.2.2.2.2.1] at h1; injection h1 with h1; rw [← h1]; dsimp only; omega), (HQ.out.2.1.keep fun _ _ _ => rfl).mono (Nat.le_refl _) (by simp; omega), below_drewN HQ.out.2.2.2.1 _⟩
            case measure => simp [intOf]; omega
    · obtain rfl : j = n := by omega
      have hge : ¬ (j : Int) < j := by omega
      rw [List.take_of_length_le (by omega)] at hp
      obtain ⟨Av, cv, rfl, _⟩ := ho.shape
      have HQ := Lib.hid (And.intro hp (And.intro hr (And.intro ho hb)))
      clear hp hr ho hb
      go_wp2_with fail
      exact bodyPost_ret (v := .slice Av j cv) (by simp [results, Tryd.results45, go_sem]) rfl ⟨HQ.out.2.2.2, _, rfl, S, HQ.out.1, HQ.out.2.1, HQ.out.2.2.1⟩
end Go.Proofs.YtlfajfmkljnodaaDoor
