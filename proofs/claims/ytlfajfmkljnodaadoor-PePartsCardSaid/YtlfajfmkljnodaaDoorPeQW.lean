/- The walk of the law PeParts. -/
import Derived.Test.YtlfajfmkljnodaaDoorPeQT5
import Derived.Test.YtlfajfmkljnodaaDoorPF
namespace Go.Proofs.YtlfajfmkljnodaaDoor
open Go.RowKit
set_option maxRecDepth 100000
set_option linter.unusedVariables false
set_option linter.unusedSimpArgs false
/-- Same, at two images of noughts. -/
theorem same_zero (w : World) : Calls Tryd.prog 14 #[IV.zero.val, IV.zero.val] w fun e w' => e = .returned (.bool true) ∧ Below w.heap.size w w' :=
  same_any false 0 0 0 0 0 0 0 0 0 0 0 none none none none [] [] [] w (by omega) (by omega) RdS.none_ RdS.none_ ⟨rfl, Nat.le_refl _, by omega, Reads.none_, fun v xs h => by cases h⟩ ⟨rfl, Nat.le_refl _, by omega, Reads.none_, fun v xs h => by cases h⟩ rfl
theorem parts_pq {xs : List UInt8} (r : Pe.Right xs) {C : IV} {n m s : Nat} (hl : xs.length = n) (hn : n ≤ 16384)
    (hC : C.plus = Pe.plus xs ∧ C.check = Pe.opt xs + 64 ∧ C.dir = Pe.dirs xs + 32 ∧ C.headers = Pe.headers xs ∧ C.table = (if Pe.bare xs then 0 else Pe.from_ xs) ∧ C.length = (if Pe.bare xs then 0 else Pe.length xs))
    (hm : (Pe.secs xs).length = m) (hs : (Pe.sigs xs).length = s) : PQ (Pe.secs xs) n C.check C.dir C.headers C.table C.length (Pe.end_ xs) m s := by
  obtain ⟨h0, h1, h2, h3, h5, h6⟩ := hC
  rw [h1, h2, h3, h5, h6]
  subst hl hm hs
  refine ⟨hn, by have := r.check; omega, by have := r.dir; omega, by have := r.headers; omega, r.headers.2, r.many, r.sigs, rfl, rfl, r.fits, ?_, ?_, r.each, r.apart⟩
  · cases hb : Pe.bare xs with
    | true =>
      intro _
      rw [r.bare hb]
      exact ⟨rfl, rfl⟩
    | false =>
      intro h
      have := (r.tab hb).1
      simp at h
      omega
  · cases hb : Pe.bare xs with
    | true => intro h; exact absurd rfl h
    | false =>
      intro _
      obtain ⟨q1, q2, q3, q4, q5⟩ := r.tab hb
      simp only [Bool.false_eq_true, if_false]
      exact ⟨q3, q2, q4, q5⟩
set_option maxHeartbeats 4000000 in
theorem peParts_walk (w : World) (A : Option Addr) (n c : Nat) (xs : List UInt8) (h : Rd w w.heap.size A n c xs) :
    Calls Tryd.prog 5 #[.slice A n c] w fun e w' => e = .returned (.bool true) ∧ Below w.heap.size w w' := by
  have hl := h.len
  have H := Lib.hid h
  clear h
  by_cases hn : (16384 : Int) < n
  · go_enter Tryd.func5, Tryd.ntmps5
    go_wp2_with fail
    refine (works_any w).mono ?_
    rintro e w1 ⟨rfl, h1⟩
    have H1 := Lib.hid h1
    clear h1
    go_wp2_with fail
    go_ret
    exact ⟨rfl, H1.out⟩
  · go_enter Tryd.func5, Tryd.ntmps5
    go_wp2_with fail
    refine (pe_parse_any A n c xs w H.out).mono ?_
    rintro e w1 ⟨hb1, C, rfl, hone, hz, hok⟩
    by_cases he : Pe.err xs = 0
    · have hI := hok he
      rw [he]
      obtain ⟨A4, c4, e4, r4⟩ := hI.secs.rdS
      obtain ⟨l7, hsg, hl7⟩ := hI.sigs
      obtain ⟨A7, c7, e7, _⟩ := hsg.row.shape
      have hs : (Pe.sigs xs).length = l7.length := by rw [← hl7, List.length_map]
      have hpq := parts_pq (Pe.right_of he) (C := C) hl (by omega) hI.nums rfl hs
      obtain ⟨pl, ck, dr, hd, v4, tb, ln, v7⟩ := C
      dsimp only at e4 e7 hpq
      subst e4 e7
      have hhd : hd ≤ 16384 := by have := hpq.c4; omega
      obtain ⟨m, hm⟩ : ∃ m, (Pe.secs xs).length = m := ⟨_, rfl⟩
      obtain ⟨s, hs'⟩ : ∃ s, l7.length = s := ⟨_, rfl⟩
      rw [hm] at r4 hpq hone ⊢
      rw [hs'] at hpq hone ⊢
      have H1 := Lib.hid (And.intro hb1 (And.intro hone (And.intro hpq r4)))
      clear hb1 hone hpq r4 hok hz hI hsg hs he hl7
      go_upto_region 6 with (first
        | ((with_reducible refine at_store_img ?_); refine wpList_store_img rfl _ _ rfl w1.heap.size IV.zero ⟨pl, ck, dr, hd, .slice A4 m c4, tb, ln, .slice A7 s c7⟩ rfl rfl (Blk.new w1 _ _) H1.out.2.1 ?_; intro w2 hB2 hg2)
        | fail)
      have hb2 : Below w1.heap.size w1 w2 := (below_one w1 _).grown hg2 (by simp) (fun k e => by injection e with e; omega)
      have q3 : w2.cell? ⟨w1.heap.size, 3, none⟩ = some (.int .u32 (hd : Int)) := hB2.cell 3
      have hsz := hb2.size
      have h12 : w1.heap.size < w2.heap.size := hB2.lt
      have hbw : Below w.heap.size w w2 := H1.out.1.trans (hb2.mono H1.out.1.size)
      have hr2 : RdS w2 w2.heap.size A4 m c4 (Pe.secs xs) := H1.out.2.2.2.up hb2
      have H2 := Lib.hid (And.intro hB2 (And.intro hbw hr2))
      have h01 := H1.out.1.size
      clear hB2 hg2 hb2 hbw hr2 hm hs'
      go_cut [5] from 6 (fun s5 wx => s5 = .int .i64 (hd : Int) ∧ wx = w2)
      case first =>
        go_wp2_with fail
        go_meet
        exact ⟨rfl, rfl⟩
      obtain ⟨rfl, rfl⟩ := hcut
      apply_assumption
      (repeat (rename_i x; clear x))
      exact parts_tail5 H1.out.2.2.1 H2.out.2.1 ⟨h01, h12⟩ H2.out.1 H2.out.2.2 wc (Below.refl _ _) _ _ _ _ _ _ _ _ _ _ _ _ _ _ _ _ _ _ _ _ _ _ _ _ _ _ _ _ _ _ _ _ _ _ _ _ _ _ _ _ _ _ _ _ _ _ _ _ _ _ _ _ _ _ _ _ _ _ _ _ _ _ _ _ _ _ _ _ _ _ _ _ _ _ _ _ _ _ _ _ _ _ _ _ _ _ _ _ _ _ _ _ _ _ _ _ _ _ _ _ _ _ _ _ _ _ _ _ _ _ _ _ _ _ _ _ _ _ _ _ _ _ _ _ _ _ _ _ _ _ _ _ _ _ _ _ _ _ _ _ _ _ _ _ _ _ _ _ _ _ _ _ _ _ _ _ _ _ _ _ _ _ _ _ _ _ _ _ _ _ _ _ _ _ _ _ _ _ _ _ _ _ _ _ _ _ _ _ _ _ _ _ _ _ _ _ _ _ _ _ _ _ _ _ _ _ _ _ _ _ _ _ _ _
    · obtain rfl := hz he
      have he' : ((Pe.err xs : Int) != 0) = true := by simp; omega
      have H1 := Lib.hid hb1
      clear hb1 hok hz
      obtain ⟨er, her⟩ : ∃ er, Pe.err xs = er := ⟨_, rfl⟩
      rw [her] at he' ⊢
      clear her he
      go_wp2_with (first
        | ((with_reducible refine at_store_img ?_); refine wpList_store_img rfl _ _ rfl w1.heap.size IV.zero IV.zero rfl rfl (Blk.new w1 _ _) IV.zero_one ?_; intro w2 hB2 hg2; have hb2 : Below w1.heap.size w1 w2 := (below_one w1 _).grown hg2 (by simp) (fun k e => by injection e with e; omega))
        | ((with_reducible refine at_load_img ?_); refine wpList_load_img rfl _ rfl w1.heap.size IV.zero rfl hB2 ?_)
        | fail)
      have hbw : Below w.heap.size w w2 := H1.out.trans (hb2.mono H1.out.size)
      have H2 := Lib.hid hbw
      clear hB2 hg2 hb2 hbw
      refine (same_zero w2).mono ?_
      rintro e w3 ⟨rfl, h3⟩
      have H3 := Lib.hid (H2.out.trans (h3.mono H2.out.size))
      clear h3
      go_wp2_with fail
      refine (works_any w3).mono ?_
      rintro e w4 ⟨rfl, h4⟩
      have H4 := Lib.hid (H3.out.trans (h4.mono H3.out.size))
      clear h4
      go_wp2_with fail
      go_ret
      exact ⟨rfl, H4.out⟩
end Go.Proofs.YtlfajfmkljnodaaDoor
