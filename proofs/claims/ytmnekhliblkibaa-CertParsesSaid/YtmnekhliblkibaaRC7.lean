/- The contract of the document's meant. -/
import Derived.Test.YtmnekhliblkibaaRC6
namespace Go.Proofs.Ytmnekhliblkibaa
open Go.RowKit
set_option maxRecDepth 100000
set_option linter.unusedVariables false
set_option linter.unusedSimpArgs false

theorem mean_cons (p : Bool × Bool) (y : El) (l : List El) : RC.mean p (y :: l) = RC.mean (p.1 || y.2.1 == RC.forCode, p.2 && ((Der.oid y.2.1).isSome && decide ((y.1.toNat : Int) = 6))) l := rfl

set_option maxHeartbeats 4000000 in
theorem rmeant_any (C : CV) (hC : ∀ v ∈ C.cells.toList, v.oneCell' = true) (t : UInt8) (A1 A2 : Option Addr) (n1 c1 n2 c2 : Nat) (b r : List UInt8) (w : World) (h1 : Rd w w.heap.size A1 n1 c1 b) (hn : n1 ≤ 1099511627) :
    Calls Try.prog 111 #[C.val, .agg #[.int .u8 (t.toNat : Int), .slice A1 n1 c1, .slice A2 n2 c2]] w (FlQ w C (RC.meant C.fl (t, b, r))) := by
  have hP0 := P3.start w C #[.int .u8 (t.toNat : Int), .slice A1 n1 c1, .slice A2 n2 c2]
  show Calls _ _ #[.agg C.cells, _] _ _
  have hcl : C.cells.size = 24 := rfl
  go_enter Try.func111, Try.ntmps111
  go_wp2_with fail
  refine (rparts_any t A1 A2 n1 c1 n2 c2 48 b r _ ((((h1.alloc (Nat.le_refl _) _).alloc (by simp) _).alloc (by simp; omega) _).more (by simp; omega)) hn).mono ?_
  rintro e w1 ⟨q0, A, n, c, L, rfl, hb1, hE, hnl, hm, ho⟩
  have hP1 := hP0.below hb1
  have hs1 : w.heap.size + 1 + 1 + 1 ≤ w1.heap.size := hP1.2.2.2
  obtain ⟨l, hl⟩ : ∃ l, l = L.map EI.dat := ⟨_, rfl⟩
  rw [← hl] at hm ho
  have hll : l.length = n := by rw [hl, List.length_map]; exact hnl.symm
  have hcm : n ≤ 9223372036854775807 := by
    obtain ⟨_, _, e, q1, q2, _⟩ := hE.1.shape
    injection e with e1 e2 e3
    omega
  have H1 := Lib.hid (And.intro hP1 (And.intro (hE.mono (lo' := w.heap.size + 1 + 1 + 1) (by simp) (Nat.le_refl _)) (And.intro hm (And.intro ho (And.intro hl hll)))))
  have hsp : RC.meant C.fl (t, b, r) = if ((RC.mean (false, q0) l).2 && decide (0 < n)) = true then some {C.fl with code := (RC.mean (false, q0) l).1} else none := by
    unfold RC.meant
    rw [ho]
    cases q0 with
    | false => rw [mean_snd l (false, false) rfl]; rfl
    | true =>
      rw [if_pos rfl]
      simp only [Option.bind_some, hll]
      by_cases h : ((RC.mean (false, true) l).2 && decide (0 < n)) = true
      · rw [if_pos h, must_t h]; rfl
      · rw [if_neg h, must_f (by simpa using h)]; rfl
  have HS := Lib.hid hsp
  clear hsp hP0 hP1 hb1 hE hm ho h1 hnl hl hll
  have k0 : w1.cell? ⟨w.heap.size, 23, none⟩ = some (.bool C.fl.code) := H1.out.1.1.at_ 23
  have k1 := H1.out.1.1.frozen 23
  have HP := Lib.hid (H1.out.1.code false)
  go_wp2
  clear k0 k1
  go_loopw [7, 8] (fun v i wr => ∃ (k : Nat) (p : Bool × Bool), k ≤ n ∧ i = .int .i64 k ∧ v = .bool p.2 ∧ w1.grownBy wr (some w.heap.size) ∧ P3 w wr {C with fl := {C.fl with code := p.1}} ∧ RC.mean (false, q0) l = RC.mean p (l.drop k)) (fun _ i _ => n - (intOf i).toNat)
  case atStart => exact ⟨0, (false, q0), Nat.zero_le _, rfl, rfl, grown_put _ _ _, HP.out, rfl⟩
  case round =>
    obtain ⟨k, ⟨p1, p2⟩, hk, rfl, rfl, hg', hBc, hrun⟩ := hrel
    dsimp only at hBc hrun ⊢
    have hsr := hg'.size
    have HK := Lib.hid (And.intro hg' (And.intro hBc hrun))
    clear hg' hBc hrun
    by_cases hlt : k < n
    · have hlt' : (k : Int) < n := by omega
      obtain ⟨g, rfl, hg, hg2⟩ := H1.out.2.1.spot_ (by omega)
      have hEr := H1.out.2.1.keepRows (KeepRows.grown HK.out.1 (by omega))
      obtain ⟨t0, A3, n3, c3, b0, A4, n4, c4, r0, hx0, e0, e1, e2, R0, R1, hxk⟩ := hEr.el H1.out.2.2.2.2.1 (Below.refl w1.heap.size wr) (Nat.le_refl _) k (k * 3) hlt rfl
      have hn3 : n3 ≤ 1099511627776 := by
        have hsm := H1.out.2.2.1 (t0, b0, r0) (by
          rw [H1.out.2.2.2.2.1]
          exact List.mem_map.2 ⟨_, List.mem_of_getElem? hxk, rfl⟩)
        have := R0.len; simp at hsm; omega
      have hdrop : l.drop k = (t0, b0, r0) :: l.drop (k + 1) := by
        have hlk : k < l.length := by have := H1.out.2.2.2.2.2; omega
        rw [← hx0, List.getD_eq_getElem?_getD, List.getElem?_eq_getElem hlk]
        exact List.drop_eq_getElem_cons hlk
      have hR0 : Rd wr wr.heap.size A3 n3 c3 b0 := R0.more hsr
      have hg9 : g < wr.heap.size := by omega
      have HX := Lib.hid (And.intro hdrop (And.intro hR0 (And.intro hEr hxk)))
      clear hx0 R0 R1 hxk hEr hdrop hR0
      go_wp2_with fail
      refine (roid_any A3 n3 c3 b0 _ HX.out.2.1 hn3).mono ?_
      rintro e w3 ⟨v3, rfl, hb3⟩
      obtain ⟨oi, hoi⟩ : ∃ oi, (Der.oid b0).isSome = oi := ⟨_, rfl⟩
      rw [hoi]
      have hP3 := HK.out.2.1.below hb3
      have f0 : w3.cell? ⟨g, k * 3, none⟩ = some (.int .u8 (t0.toNat : Int)) := (hb3.cell (p := ⟨g, k * 3, none⟩) hg9).trans e0
      have f1 : w3.cell? ⟨g, k * 3 + 1, none⟩ = some (.slice A3 n3 c3) := (hb3.cell (p := ⟨g, k * 3 + 1, none⟩) hg9).trans e1
      have hstr := run_string (HX.out.2.1.up hb3) 9 Try.underlying9
      have k0 : w3.cell? ⟨w.heap.size, 23, none⟩ = some (.bool p1) := hP3.1.at_ 23
      have k1 := hP3.1.frozen 23
      obtain ⟨z, hz⟩ : ∃ z, (b0 == [43, 6, 1, 5, 5, 7, 3, 3]) = z := ⟨_, rfl⟩
      obtain ⟨s6, h6⟩ : ∃ s6, ((t0.toNat : Int) == 6) = s6 := ⟨_, rfl⟩
      have hrun : RC.mean (false, q0) l = RC.mean (p1 || z, p2 && (oi && s6)) (l.drop (k + 1)) := by
        rw [HK.out.2.2, HX.out.1, mean_cons]
        dsimp only
        rw [show (b0 == RC.forCode) = z from hz, hoi, ← h6]
        rfl
      have hgz := HK.out.1.trans (grows_ hb3 (some w.heap.size))
      have HH := Lib.hid (And.intro hP3 (And.intro hrun hgz))
      clear hP3 hrun hgz hb3 e0 e1 e2 hoi
      cases p1
      all_goals cases p2
      all_goals cases oi
      all_goals cases s6
      all_goals cases z
      all_goals (go_wp2; go_roundw; (case rel => (refine ⟨k + 1, _, by omega, by go_num, ?_, HH.out.2.2.trans (grown_put _ _ _), ?_, HH.out.2.1⟩; rfl; exact HH.out.1.code _)); (case measure => (simp [intOf]; omega)))
    · obtain rfl : n = k := by omega
      have hge : ¬ (n : Int) < n := by omega
      have hd : l.drop n = [] := List.drop_eq_nil_of_le (by have := H1.out.2.2.2.2.2; omega)
      have hfin : RC.meant C.fl (t, b, r) = if (p2 && decide (0 < n)) = true then some {C.fl with code := p1} else none := by
        rw [HS.out, HK.out.2.2, hd]; rfl
      have HF := Lib.hid hfin
      clear hd hfin
      cases p2
      · go_wp2_with (first | ((with_reducible refine at_load_cert ?_); refine wpList_load_cert rfl _ rfl (w.heap.size) ({C with fl := {C.fl with code := p1}}) rfl (HK.out.2.1.1) ?_) | ((with_reducible refine at_store_cert ?_); refine wpList_store_cert rfl _ _ rfl (w.heap.size + 1 + 1) CV.zero ({C with fl := {C.fl with code := p1}}) rfl rfl (HK.out.2.1.2.1) (CV.fl_one hC _) ?_; intro wz hBz hgz) | fail)
        refine P3.ret rfl HK.out.2.1 hgz hBz rfl rfl ?_
        exact HF.out
      · by_cases h0 : 0 < n
        · have h0' : (0 : Int) < n := by omega
          go_wp2_with (first | ((with_reducible refine at_load_cert ?_); refine wpList_load_cert rfl _ rfl (w.heap.size) ({C with fl := {C.fl with code := p1}}) rfl (HK.out.2.1.1) ?_) | ((with_reducible refine at_store_cert ?_); refine wpList_store_cert rfl _ _ rfl (w.heap.size + 1 + 1) CV.zero ({C with fl := {C.fl with code := p1}}) rfl rfl (HK.out.2.1.2.1) (CV.fl_one hC _) ?_; intro wz hBz hgz) | fail)
          refine P3.ret rfl HK.out.2.1 hgz hBz rfl rfl ?_
          rw [HF.out, decide_eq_true h0]; rfl
        · obtain rfl : n = 0 := by omega
          go_wp2_with (first | ((with_reducible refine at_load_cert ?_); refine wpList_load_cert rfl _ rfl (w.heap.size) ({C with fl := {C.fl with code := p1}}) rfl (HK.out.2.1.1) ?_) | ((with_reducible refine at_store_cert ?_); refine wpList_store_cert rfl _ _ rfl (w.heap.size + 1 + 1) CV.zero ({C with fl := {C.fl with code := p1}}) rfl rfl (HK.out.2.1.2.1) (CV.fl_one hC _) ?_; intro wz hBz hgz) | fail)
          refine P3.ret rfl HK.out.2.1 hgz hBz rfl rfl ?_
          exact HF.out
end Go.Proofs.Ytmnekhliblkibaa
