/- The contracts of the reference's within and Check. -/
import Derived.Test.YtmnekhliblkibaaAllsC
namespace Go.Proofs.Ytmnekhliblkibaa
open Go.RowKit
set_option maxRecDepth 100000
set_option linter.unusedVariables false
set_option linter.unusedSimpArgs false

theorem firstBad_zero {f : UInt8 → List UInt8 → Nat} : ∀ (l : List EI), (∀ x ∈ l, f x.t x.body = 0) → Der.firstBad f (l.map fun x => some x.dat) = 0
  | [], _ => rfl
  | x :: l, h => by
    simp only [List.map_cons, EI.dat, Der.firstBad, h x (by simp), if_true]
    exact firstBad_zero l fun y hy => h y (by simp [hy])
theorem firstBad_at {f : UInt8 → List UInt8 → Nat} : ∀ (l : List EI) (k : Nat) (x : EI), l[k]? = some x → (∀ j y, j < k → l[j]? = some y → f y.t y.body = 0) → f x.t x.body ≠ 0 → Der.firstBad f (l.map fun x => some x.dat) = f x.t x.body
  | [], k, x, h, _, _ => by simp at h
  | y :: l, 0, x, h, _, hx => by
    simp at h
    subst h
    simp only [List.map_cons, EI.dat, Der.firstBad, if_neg hx]
  | y :: l, k + 1, x, h, hz, hx => by
    simp at h
    simp only [List.map_cons, EI.dat, Der.firstBad, hz 0 y (by omega) rfl, if_true]
    exact firstBad_at l k x h (fun j z hj hz' => hz (j + 1) z (by omega) (by simpa using hz')) hx

theorem within_leaf (t : UInt8) (A1 A2 : Option Addr) (n1 c1 n2 c2 : Nat) (d : Int) (body : List UInt8) (B : Nat) (w : World) (h1 : Rd w B A1 n1 c1 body) (hl : Der.leaf t body = true) :
    Calls Try.prog 74 #[.agg #[.int .u8 (t.toNat : Int), .slice A1 n1 c1, .slice A2 n2 c2], .int .i64 d] w (ThrPost 0 w) := by
  have hn := h1.len
  clear h1
  by_cases ht : t.toNat / 32 % 2 = 0
  · have e1 : (bits .and .u8 (t.toNat : Int) 32 == 0) = true := by rw [and32, ht]; rfl
    clear hl hn
    go_enter Try.func74, Try.ntmps74
    go_wp2
    go_ret
    exact ⟨rfl, by (repeat (first | exact Below.refl _ _ | assumption | (refine Below.setCell ?_ (by first | omega | (simp; done) | (simp; omega)) _) | (refine Below.alloc ?_ (by first | omega | (simp; done) | (simp; omega)) _) | (refine below_drewN ?_ _) | (refine Below.drew ?_)))⟩
  · have e1 : (bits .and .u8 (t.toNat : Int) 32 == 0) = false := by rw [and32]; simp; omega
    have h0 : body = [] := by simpa [Der.leaf, ht] using hl
    subst h0
    obtain rfl : n1 = 0 := by simpa using hn.symm
    clear hl hn
    go_enter Try.func74, Try.ntmps74
    go_wp2
    go_ret
    exact ⟨rfl, by (repeat (first | exact Below.refl _ _ | assumption | (refine Below.setCell ?_ (by first | omega | (simp; done) | (simp; omega)) _) | (refine Below.alloc ?_ (by first | omega | (simp; done) | (simp; omega)) _) | (refine below_drewN ?_ _) | (refine Below.drew ?_)))⟩

theorem within_deep (t : UInt8) (A1 A2 : Option Addr) (n1 c1 n2 c2 : Nat) (body : List UInt8) (B : Nat) (w : World) (h1 : Rd w B A1 n1 c1 body) (hl : Der.leaf t body = false) :
    Calls Try.prog 74 #[.agg #[.int .u8 (t.toNat : Int), .slice A1 n1 c1, .slice A2 n2 c2], .int .i64 16] w (ThrPost 10 w) := by
  have hn := h1.len
  clear h1
  simp only [Der.leaf, Bool.or_eq_false_iff, beq_eq_false_iff_ne, List.isEmpty_eq_false_iff] at hl
  have e1 : (bits .and .u8 (t.toNat : Int) 32 == 0) = false := by rw [and32]; simp; omega
  have hpos : 0 < body.length := List.length_pos_iff.2 hl.2
  have e2 : ((n1 : Int) == 0) = false := by simp; omega
  clear hl hn hpos
  go_enter Try.func74, Try.ntmps74
  go_wp2
  go_ret
  exact ⟨rfl, by (repeat (first | exact Below.refl _ _ | assumption | (refine Below.setCell ?_ (by first | omega | (simp; done) | (simp; omega)) _) | (refine Below.alloc ?_ (by first | omega | (simp; done) | (simp; omega)) _) | (refine below_drewN ?_ _) | (refine Below.drew ?_)))⟩

set_option maxHeartbeats 2000000 in
theorem within_any (k : Nat) : ∀ (d : Nat), d + k = 16 → ∀ (t : UInt8) (A1 A2 : Option Addr) (n1 c1 n2 c2 : Nat) (body : List UInt8) (w : World), Rd w w.heap.size A1 n1 c1 body → n1 ≤ 1099511627 →
    Calls Try.prog 74 #[.agg #[.int .u8 (t.toNat : Int), .slice A1 n1 c1, .slice A2 n2 c2], .int .i64 (d : Int)] w (ThrPost (Der.thr k t body) w) := by
  induction k with
  | zero =>
    intro d hd t A1 A2 n1 c1 n2 c2 body w h1 hn1
    obtain rfl : d = 16 := by omega
    by_cases hl : Der.leaf t body = true
    · rw [Der.thr, if_pos hl]; exact within_leaf t A1 A2 n1 c1 n2 c2 _ body _ w h1 hl
    · rw [Der.thr, if_neg hl]; exact within_deep t A1 A2 n1 c1 n2 c2 body _ w h1 (by simpa using hl)
  | succ k ih =>
    intro d hd t A1 A2 n1 c1 n2 c2 body w h1 hn1
    by_cases hl : Der.leaf t body = true
    · rw [Der.thr, if_pos hl]; exact within_leaf t A1 A2 n1 c1 n2 c2 _ body _ w h1 hl
    rw [Der.thr, if_neg hl]
    obtain ⟨V, hV⟩ : ∃ V, (if (Der.seq body).any (·.isNone) then 9 else Der.firstBad (Der.thr k) (Der.seq body)) = V := ⟨_, rfl⟩
    rw [hV]
    simp only [Der.leaf, Bool.or_eq_true, beq_iff_eq, List.isEmpty_iff, not_or] at hl
    have hn := h1.len
    have e1 : (bits .and .u8 (t.toNat : Int) 32 == 0) = false := by rw [and32]; simp; omega
    have hpos : 0 < body.length := List.length_pos_iff.2 hl.2
    have e2 : ((n1 : Int) == 0) = false := by simp; omega
    have e3 : ((d : Int) == 16) = false := by simp; omega
    have HV := Lib.hid (And.intro hV (And.intro h1 hn))
    have HIH := Lib.hid ih
    clear hl hn hpos ih hV h1
    go_enter Try.func74, Try.ntmps74
    go_wp2_with fail
    refine (refAll_any A1 n1 c1 body _ (HV.out.2.1.up (by (repeat (first | exact Below.refl _ _ | assumption | (refine Below.setCell ?_ (by first | omega | (simp; done) | (simp; omega)) _) | (refine Below.alloc ?_ (by first | omega | (simp; done) | (simp; omega)) _) | (refine below_drewN ?_ _) | (refine Below.drew ?_))))) hn1).mono ?_
    rintro e w1 ⟨hb1, ⟨hany, rfl⟩ | ⟨l, A3, n3, c3, hs, rfl, hE⟩⟩
    · have hv := HV.out.1
      rw [if_pos hany] at hv
      have hbw : Below w.heap.size w w1 := Below.trans (by (repeat (first | exact Below.refl _ _ | assumption | (refine Below.setCell ?_ (by first | omega | (simp; done) | (simp; omega)) _) | (refine Below.alloc ?_ (by first | omega | (simp; done) | (simp; omega)) _) | (refine below_drewN ?_ _) | (refine Below.drew ?_)))) (hb1.mono (by first | omega | (simp; done) | (simp; omega)))
      have HN := Lib.hid (And.intro hv hbw)
      clear hany hv hbw hb1
      go_wp2
      go_ret
      exact thr_mk (v := 9) HN.out.1 HN.out.2
    · have hany : (Der.seq body).any (·.isNone) = false := by rw [hs, List.any_map]; simp [Function.comp_def]
      have hv := HV.out.1
      rw [if_neg (by rw [hany]; simp), hs] at hv
      have hbw : Below w.heap.size w w1 := Below.trans (by (repeat (first | exact Below.refl _ _ | assumption | (refine Below.setCell ?_ (by first | omega | (simp; done) | (simp; omega)) _) | (refine Below.alloc ?_ (by first | omega | (simp; done) | (simp; omega)) _) | (refine below_drewN ?_ _) | (refine Below.drew ?_)))) (hb1.mono (by first | omega | (simp; done) | (simp; omega)))
      have hl3 : l.length = n3 := by
        obtain ⟨_, _, e, _⟩ := hE.1.shape
        injection e with _ e2 _
        exact e2.symm
      have hsl := seqF_len body.length body
      rw [show Der.seqF body.length body = Der.seq body from rfl, hs, List.length_map] at hsl
      have hn3 : n3 ≤ 1099511627 := by have := HV.out.2.2; omega
      have HX := Lib.hid (And.intro hv (And.intro hbw (And.intro hE (And.intro hs hl3))))
      have hsz := hbw.size
      clear hany hv hbw hE hs hl3 hsl hb1
      go_wp2
      go_loopw [6, 7] (fun e i wr => ∃ j : Nat, j ≤ n3 ∧ i = .int .i64 j ∧ (∀ q y, q < j → l[q]? = some y → Der.thr k y.t y.body = 0) ∧ Below w1.heap.size w1 wr) (fun _ i _ => n3 - (intOf i).toNat)
      case atStart => exact ⟨0, Nat.zero_le _, rfl, (fun q y h => by omega), Below.refl _ _⟩
      case round =>
        obtain ⟨j, hj, rfl, hz, hb⟩ := hrel
        have hsz2 := hb.size
        by_cases hlt : j < n3
        · have hlt' : (j : Int) < n3 := by omega
          obtain ⟨g, t', A5, n5, c5, body', A6, n6, c6, raw', rfl, hg, hx, q0, q1, q2, r1, r2⟩ := HX.out.2.2.1.at_ hb (Nat.le_refl _) hlt
          have hm : some (t', body', raw') ∈ Der.seq body := by
            rw [HX.out.2.2.2.1]
            exact List.mem_map.2 ⟨_, List.mem_of_getElem? hx, rfl⟩
          have hbl := seqF_mem body.length body t' body' raw' hm
          have hn5 : n5 ≤ 1099511627 := by have := r1.len; have := HV.out.2.2; omega
          have hih := HIH.out (d + 1) (by omega) t' A5 A6 n5 c5 n6 c6 body' wr (r1.more hsz2) hn5
          rw [show ((d + 1 : Nat) : Int) = (d : Int) + 1 from by omega] at hih
          have HC := Lib.hid (And.intro hih (And.intro hb (And.intro hz hx)))
          have hdb : (d : Int) < 16 := by omega
          clear hih hb hz hx r1 r2 hm hbl
          go_wp2_with fail
          refine HC.out.1.mono ?_
          rintro e w5 ⟨rfl, hb5⟩
          obtain ⟨q, hq⟩ : ∃ q, Der.thr k t' body' = q := ⟨_, rfl⟩
          rw [hq]
          have HQ := Lib.hid (And.intro hq (HC.out.2.1.trans (hb5.mono hsz2)))
          clear hq hb5
          by_cases hq0 : q = 0
          · have hne : ((q : Int) != 0) = false := by simp; omega
            go_wp2
            go_roundw
            case rel =>
              refine ⟨j + 1, by omega, by go_num, fun q' y hq' hy => ?_, HQ.out.2⟩
              by_cases e : q' = j
              · subst e
                rw [HC.out.2.2.2] at hy
                injection hy with hy
                subst hy
                exact HQ.out.1.trans hq0
              · exact HC.out.2.2.1 q' y (by omega) hy
            case measure => simp [intOf]; omega
          · have hne : ((q : Int) != 0) = true := by simp; omega
            go_wp2
            go_ret
            have hf := firstBad_at (f := Der.thr k) l j _ HC.out.2.2.2 HC.out.2.2.1 (by dsimp only; rw [HQ.out.1]; exact hq0)
            dsimp only at hf
            rw [HQ.out.1, HX.out.1] at hf
            exact thr_mk hf.symm (HX.out.2.1.trans (HQ.out.2.mono hsz))
        · obtain rfl : n3 = j := by omega
          have hge : ¬ (n3 : Int) < n3 := by omega
          have HZ := Lib.hid (And.intro hz hb)
          clear hz hb
          go_wp2
          go_ret
          have hf := firstBad_zero (f := Der.thr k) l fun x hx => by
            obtain ⟨q, hq, rfl⟩ := List.getElem_of_mem hx
            exact HZ.out.1 q _ (by have := HX.out.2.2.2.2; omega) (List.getElem?_eq_getElem hq)
          rw [HX.out.1] at hf
          exact thr_mk (v := 0) hf.symm (HX.out.2.1.trans (HZ.out.2.mono hsz))

set_option maxHeartbeats 400000 in
theorem refCheck_any (A : Option Addr) (n c : Nat) (xs : List UInt8) (w : World) (h : Rd w w.heap.size A n c xs) (hn : n ≤ 1099511627) :
    Calls Try.prog 46 #[.slice A n c] w (ThrPost (Der.check xs) w) := by
  obtain ⟨V, hV⟩ : ∃ V, Der.check xs = V := ⟨_, rfl⟩
  rw [hV]
  have hl := h.len
  have HV := Lib.hid (And.intro hV (And.intro h hl))
  clear hV h hl
  go_enter Try.func46, Try.ntmps46
  go_wp2_with fail
  refine (refParse_any A n c xs _ HV.out.2.1 (by omega)).mono ?_
  rintro e w1 ⟨hb1, ⟨hno, rfl⟩ | ⟨t, body, raw, rest, A1, n1, c1, A2, n2, c2, A3, n3, c3, hel, rfl, ho⟩⟩
  · have hsb := hb1.size
    have hv := HV.out.1
    unfold Der.check at hv
    rw [hno] at hv
    have HN := Lib.hid hv
    clear hno hv
    go_wp2
    go_ret
    exact thr_mk (v := 9) HN.out (by (repeat (first | exact Below.refl _ _ | assumption | (refine Below.setCell ?_ (by first | omega | (simp; done) | (simp; omega)) _) | (refine Below.alloc ?_ (by first | omega | (simp; done) | (simp; omega)) _) | (refine below_drewN ?_ _) | (refine Below.drew ?_))))
  · have hsb := hb1.size
    have hv := HV.out.1
    unfold Der.check at hv
    rw [hel] at hv
    simp only at hv
    have hel2 := elem_len hel
    obtain ⟨m1, q1, q2, m2, q3, q4, m3, q5, q6, q7⟩ := ho
    have q7' : m3 ≤ w1.heap.size := q7
    have hrest := Rd.of_own q6
    have hn3 := hrest.len
    have hbody := (Rd.of_own q2).more (show m1 ≤ w1.heap.size by omega)
    have hn1 : n1 ≤ 1099511627 := by have := hbody.len; have := HV.out.2.2; omega
    by_cases hr : rest = []
    · rw [if_pos hr] at hv
      subst hr
      obtain rfl : n3 = 0 := by simpa using hn3.symm
      have HN := Lib.hid (And.intro hv hbody)
      have hbk := Blk.new w1 50 #[.int .u8 (t.toNat : Int), .slice A1 n1 c1, .slice A2 n2 c2]
      obtain ⟨hc, hf⟩ := hbk.facts
      clear hv hn3 hbody hel2 hel hrest q1 q2 q3 q4 q5 q6 q7 q7' hbk
      go_wp2_with fail
      refine (within_any 15 1 rfl t A1 A2 n1 c1 n2 c2 body _ (HN.out.2.up (by (repeat (first | exact Below.refl _ _ | assumption | (refine Below.setCell ?_ (by first | omega | (simp; done) | (simp; omega)) _) | (refine Below.alloc ?_ (by first | omega | (simp; done) | (simp; omega)) _) | (refine below_drewN ?_ _) | (refine Below.drew ?_))))) hn1).mono ?_
      rintro e w2 ⟨rfl, hb2⟩
      have hb3 : Below w.heap.size w w2 := Below.trans (by (repeat (first | exact Below.refl _ _ | assumption | (refine Below.setCell ?_ (by first | omega | (simp; done) | (simp; omega)) _) | (refine Below.alloc ?_ (by first | omega | (simp; done) | (simp; omega)) _) | (refine below_drewN ?_ _) | (refine Below.drew ?_)))) (hb2.mono (by simp; omega))
      go_wp2
      go_ret
      exact thr_mk HN.out.1 hb3
    · rw [if_neg hr] at hv
      have hpos : 0 < rest.length := List.length_pos_iff.2 hr
      have h3p : (0 : Int) < n3 := by omega
      have HN := Lib.hid hv
      clear hv hn3 hbody hel2 hel hrest q1 q2 q3 q4 q5 q6 q7 q7' hpos
      go_wp2
      go_ret
      exact thr_mk (v := 9) HN.out (by (repeat (first | exact Below.refl _ _ | assumption | (refine Below.setCell ?_ (by first | omega | (simp; done) | (simp; omega)) _) | (refine Below.alloc ?_ (by first | omega | (simp; done) | (simp; omega)) _) | (refine below_drewN ?_ _) | (refine Below.drew ?_))))
end Go.Proofs.Ytmnekhliblkibaa
