/- The walk of the law PeParses. -/
import Derived.Test.YtlfajfmkljnodaaDoorPeR11
import Derived.Test.YtlfajfmkljnodaaDoorPeAp3
import Derived.Test.YtlfajfmkljnodaaDoorPeTop
import Derived.Test.YtlfajfmkljnodaaDoorPeWorks
import Derived.Test.YtlfajfmkljnodaaDoorPeLaid
namespace Go.Proofs.YtlfajfmkljnodaaDoor
open Go.RowKit
set_option maxRecDepth 100000
set_option linter.unusedVariables false
set_option linter.unusedSimpArgs false
namespace Pe
theorem rowsF_len (xs : List UInt8) : ∀ (k a : Nat) (l : List (List UInt8)), rowsF xs k a = some l → ∀ s ∈ l, s.length ≤ xs.length
  | 0, a, l, h, s, hs => by
    unfold rowsF at h
    injection h with h
    subst h
    cases hs
  | k + 1, a, l, h, s, hs => by
    unfold rowsF at h
    split at h
    · split at h
      · obtain ⟨r, hr, rfl⟩ := Option.map_eq_some_iff.1 h
        rcases List.mem_cons.1 hs with rfl | hs
        · unfold blob
          rw [List.length_take, List.length_drop]
          omega
        · exact rowsF_len xs k _ r hr s hs
      · cases h
    · injection h with h
      subst h
      cases hs
theorem sigs_len (xs : List UInt8) : ∀ s ∈ sigs xs, s.length ≤ xs.length := by
  intro s hs
  unfold sigs at hs
  split at hs
  · cases hs
  · cases h : rows xs (from_ xs) with
    | none => rw [h] at hs; cases hs
    | some l =>
      rw [h] at hs
      exact rowsF_len xs _ _ l h s hs
end Pe
theorem Sgs.sizes {xs : List UInt8} {w : World} {lo : Nat} {v : Value} {l : List (Value × List UInt8)} (h : Sgs w lo v l) (e : ∀ s ∈ l.map (·.2), s ∈ Pe.sigs xs) : ∀ p ∈ l, p.2.length ≤ xs.length :=
  fun p hp => Pe.sigs_len xs p.2 (e p.2 (List.mem_map_of_mem hp))
def ParsesW (w : World) (e : Ending) (w' : World) : Prop := e = .returned (.bool true) ∧ Below w.heap.size w w'
theorem parses_mid (w : World) (A : Option Addr) (n c : Nat) (hn : (16384 : Int) < n) (hn2 : (n : Int) ≤ 16777216) : Calls Tryd.prog 3 #[.slice A n c] w (ParsesW w) := by
  go_enter Tryd.func3, Tryd.ntmps3
  go_wp2_with fail
  refine (works_any w).mono ?_
  rintro e w1 ⟨rfl, h1⟩
  have H1 := Lib.hid h1
  clear h1
  go_wp2_with fail
  go_ret
  exact ⟨rfl, H1.out⟩
set_option maxHeartbeats 4000000 in
theorem parses_large (w : World) (A : Option Addr) (n c : Nat) (xs : List UInt8) (h : Rd w w.heap.size A n c xs) (hn : (16384 : Int) < n) (hn2 : (16777216 : Int) < n) : Calls Tryd.prog 3 #[.slice A n c] w (ParsesW w) := by
  have hl := h.len
  have herr : Pe.err xs = 10 := by unfold Pe.err; rw [if_pos (by omega)]
  have H := Lib.hid (And.intro h herr)
  clear h herr
  go_enter Tryd.func3, Tryd.ntmps3
  go_wp2_with fail
  refine (pe_parse_any A n c xs w H.out.1).mono ?_
  rintro e w1 ⟨hb1, C, rfl, hone, hz, hok⟩
  obtain rfl := hz (by rw [H.out.2]; decide)
  rw [H.out.2]
  have H1 := Lib.hid hb1
  clear hb1 hone hz hok
  go_upto_region 5 with (first
    | ((with_reducible refine at_store_img ?_); refine wpList_store_img rfl _ _ rfl w1.heap.size IV.zero IV.zero rfl rfl (Blk.new w1 _ _) IV.zero_one ?_; intro w2 hB2 hg2)
    | fail)
  have hb12 : Below w1.heap.size w1 w2 := (below_one w1 _).grown hg2 (by simp) (fun k e => by injection e with e; omega)
  have hb2 : Below w.heap.size w w2 := H1.out.trans (hb12.mono H1.out.size)
  have hsame : Calls Tryd.prog 14 #[IV.zero.val, .agg #[.bool false, .int .i64 0, .int .i64 0, .int .u32 0, .slice none 0 0, .int .u32 0, .int .u32 0, .slice none 0 0]] w2 fun e w' => e = .returned (.bool true) ∧ Below w2.heap.size w2 w' :=
    same_any false 0 0 0 0 0 0 0 0 0 0 0 none none none none [] [] [] w2 (by omega) (by omega) RdS.none_ RdS.none_ ⟨rfl, Nat.le_refl _, by omega, Reads.none_, fun v xs h => by cases h⟩ ⟨rfl, Nat.le_refl _, by omega, Reads.none_, fun v xs h => by cases h⟩ rfl
  have H2 := Lib.hid (And.intro hB2 (And.intro hb2 hsame))
  clear hB2 hb2 hsame hb12 hg2
  go_wp2_with (first
    | ((with_reducible refine at_load_img ?_); refine wpList_load_img_g _ rfl w1.heap.size IV.zero rfl H2.out.1 (by rfl) ?_)
    | fail)
  refine H2.out.2.2.mono ?_
  rintro e w3 ⟨rfl, hb3⟩
  have hb03 : Below w.heap.size w w3 := H2.out.2.1.trans (hb3.mono H2.out.2.1.size)
  have H3 := Lib.hid hb03
  clear hb3 hb03
  go_wp2_with fail
  refine (works_any w3).mono ?_
  rintro e w4 ⟨rfl, hb4⟩
  have H4 := Lib.hid (H3.out.trans (hb4.mono H3.out.size))
  clear hb4
  go_wp2_with fail
  go_ret
  exact ⟨rfl, H4.out⟩
set_option maxHeartbeats 4000000 in
theorem parses_main (w : World) (A : Option Addr) (n c : Nat) (xs : List UInt8) (h : Rd w w.heap.size A n c xs) (hn : n ≤ 16384) : Calls Tryd.prog 3 #[.slice A n c] w (ParsesW w) := by
  have hl := h.len
  have H := Lib.hid h
  clear h
  have hn' : ¬ (16384 : Int) < n := by omega
  have hn2 : ¬ (16777216 : Int) < n := by omega
  go_enter Tryd.func3, Tryd.ntmps3
  go_wp2_with fail
  refine (roomy_any A n c xs w H.out (by omega)).mono ?_
  rintro e w1 ⟨v1, rfl, hR1, hb1⟩
  obtain ⟨A1, n1, c1, rfl, hr1⟩ := hR1.own.rd
  obtain rfl : n1 = n := by rw [← hr1.len, hl]
  have H1 := Lib.hid (And.intro hR1 (And.intro hr1 hb1))
  have hs1 := hb1.size
  clear hR1 hr1 hb1
  go_wp2_with fail
  refine (pe_parse_any A1 n1 c1 xs w1 H1.out.2.1).mono ?_
  rintro e w2 ⟨hb2, C, rfl, hone, hz, hok⟩
  have hsg : ∃ l, Sgs w2 w1.heap.size C.sigs l ∧ (∀ s ∈ l.map (·.2), s ∈ Pe.sigs xs) ∧ l.length ≤ 8 := by
    by_cases he : Pe.err xs = 0
    · obtain ⟨l, h1, h2⟩ := (hok he).sigs
      refine ⟨l, h1, fun s hs => by rw [← h2]; exact hs, ?_⟩
      have h3 := (Pe.right_of he).sigs
      rw [← h2, List.length_map] at h3
      exact h3
    · rw [hz he]
      exact ⟨[], Sgs.nil_ _ _, (fun s hs => by cases hs), by simp⟩
  obtain ⟨l, hsgs, hlm, hl8⟩ := hsg
  have hlen := hsgs.sizes hlm
  obtain ⟨A7, c7, e7, hrd7⟩ := hsgs.rdL
  obtain ⟨er, her⟩ : ∃ er, Pe.err xs = er := ⟨_, rfl⟩
  have hs2 := hb2.size
  have H2 := Lib.hid (And.intro hb2 (And.intro hone (And.intro hz (And.intro hok (And.intro hsgs (And.intro hlen (And.intro e7 her)))))))
  rw [her]
  clear hb2 hone hz hok hsgs hlen e7 her hlm hrd7
  go_upto_region 8 with (first
    | ((with_reducible refine at_store_img ?_); refine wpList_store_img rfl _ _ rfl w2.heap.size IV.zero C rfl rfl (Blk.new w2 _ _) H2.out.2.1 ?_; intro w3 hB3 hg3)
    | fail)
  have hb23 : Below w2.heap.size w2 w3 := (below_one w2 _).grown hg3 (by simp) (fun k e => by injection e with e; omega)
  have hbw3 : Below w.heap.size w w3 := H1.out.2.2.trans ((H2.out.1.trans (hb23.mono hs2)).mono hs1)
  have hl3 := hB3.lt
  have hs3 := hbw3.size
  have H3 := Lib.hid (And.intro hB3 (And.intro hb23 hbw3))
  clear hB3 hb23 hbw3 hg3
  go_wp2_with fail
  refine (refParse_any A n1 c xs w3 ((H.out.below H3.out.2.2).more hs3) (by omega)).mono ?_
  rintro e w4 ⟨hb4, D, rfl, honeD, hzD, hokD⟩
  have hs4 := hb4.size
  have H4 := Lib.hid (And.intro hb4 (And.intro honeD (And.intro hzD hokD)))
  rw [H2.out.2.2.2.2.2.2.2]
  clear hb4 honeD hzD hokD
  go_upto_region 9 with (first
    | ((with_reducible refine at_store_img ?_); refine wpList_store_img rfl _ _ rfl w4.heap.size IV.zero D rfl rfl (Blk.new w4 _ _) H4.out.2.1 ?_; intro w5 hB5 hg5)
    | fail)
  have hb45 : Below w4.heap.size w4 w5 := (below_one w4 _).grown hg5 (by simp) (fun k e => by injection e with e; omega)
  have hb35 : Below w3.heap.size w3 w5 := H4.out.1.trans (hb45.mono hs4)
  have hC5 := H3.out.1.below hb35 hl3
  have hb25 : Below w2.heap.size w2 w5 := H3.out.2.1.trans (hb35.mono (by omega))
  have hl5 := hB5.lt
  have hsame : Calls Tryd.prog 14 #[C.val, D.val] w5 fun e w' => e = .returned (.bool true) ∧ Below w5.heap.size w5 w' := by
    by_cases he : Pe.err xs = 0
    · exact same_rd ((H2.out.2.2.2.1 he).later hb25) ((H4.out.2.2.2 he).later hb45) he rfl
    · rw [H2.out.2.2.1 he, H4.out.2.2.1 he]
      exact same_any false 0 0 0 0 0 0 0 0 0 0 0 none none none none [] [] [] w5 (by omega) (by omega) RdS.none_ RdS.none_ ⟨rfl, Nat.le_refl _, by omega, Reads.none_, fun v xs h => by cases h⟩ ⟨rfl, Nat.le_refl _, by omega, Reads.none_, fun v xs h => by cases h⟩ rfl
  have H5 := Lib.hid (And.intro hB5 (And.intro hC5 (And.intro hb35 (And.intro hb25 hsame))))
  clear hB5 hC5 hb35 hb25 hsame hb45 hg5
  go_wp2_with (first
    | ((with_reducible refine at_load_img ?_); refine wpList_load_img_g _ rfl w2.heap.size C rfl H5.out.2.1 (by rfl) ?_)
    | ((with_reducible refine at_load_img ?_); refine wpList_load_img_g _ rfl w4.heap.size D rfl H5.out.1 (by rfl) ?_)
    | fail)
  refine H5.out.2.2.2.2.mono ?_
  rintro e w6 ⟨rfl, hb6⟩
  have hs6 := hb6.size
  have hb36 : Below w3.heap.size w3 w6 := H5.out.2.2.1.trans (hb6.mono H5.out.2.2.1.size)
  have hbw6 : Below w.heap.size w w6 := H3.out.2.2.trans (hb36.mono hs3)
  have hb26 : Below w2.heap.size w2 w6 := H5.out.2.2.2.1.trans (hb6.mono H5.out.2.2.2.1.size)
  have hb16 : Below w1.heap.size w1 w6 := H2.out.1.trans (hb26.mono hs2)
  have hC6 : Bi w6 w2.heap.size C := H5.out.2.1.below hb6 H5.out.2.1.lt
  have H6 := Lib.hid (And.intro hbw6 (And.intro hb26 (And.intro hb16 (And.intro (H1.out.1.below hb16 (Nat.le_refl _)) (And.intro hC6 ((H.out.below hbw6).more hbw6.size))))))
  clear hb6 hb36 hbw6 hb26 hb16 hC6
  go_wp2_with fail
  refine (kept_any _ _ _ _ _ _ _ _ _ H6.out.2.2.2.1 H6.out.2.2.2.2.2 (by omega)).mono ?_
  rintro e w7 ⟨rfl, rfl⟩
  go_upto_region 12 with fail
  obtain ⟨w8, hw8⟩ : ∃ x, w7.alloc (.cells #[.slice A1 n1 c1] 22) = x := ⟨_, rfl⟩
  have hin := H6.out.2.2.2.1.own
  have hs17 := H6.out.2.2.1.size
  have hX8 : OwnC 22 1 w8 w7.heap.size w8.heap.size (.slice (some ⟨w7.heap.size, 0, none⟩) 1 1) 1 [.slice A1 n1 c1] := by
    rw [← hw8]
    exact (XS.lit w7 [(.slice A1 n1 c1, xs)] [.slice A1 n1 c1] w7.heap.size 1 rfl rfl rfl (by omega) (fun p hp => by obtain rfl := List.mem_singleton.1 hp; exact RdT.ownx hin hs17)).1
  have hb78 : Below w7.heap.size w7 w8 := by rw [← hw8]; exact (Below.refl _ _).alloc (Nat.le_refl _) _
  have hsg7 : Sgs w7 w1.heap.size C.sigs l := H2.out.2.2.2.2.1.below H6.out.2.1
  have hsg8 : Sgs w8 w1.heap.size C.sigs l := hsg7.below hb78
  have hC8 : Bi w8 w2.heap.size C := H6.out.2.2.2.2.1.below hb78 H6.out.2.2.2.2.1.lt
  obtain ⟨k, hk⟩ : ∃ k, l.length = k := ⟨_, rfl⟩
  have e7 := H2.out.2.2.2.2.2.2.1
  rw [hk] at e7 hl8
  have q7 : w8.cell? ⟨w2.heap.size, 7, none⟩ = some (.slice A7 k c7) := (hC8.cell 7).trans (congrArg some e7)
  have hrd8 : Reads w8 w8.heap.size 1 A7 k (l.map (·.1)) := by
    obtain ⟨A9, c9, e9, _, _, _, h4⟩ := hsg8.row.shape
    rw [e7, hk] at e9
    injection e9 with x1 x2 x3
    subst x1
    rw [hk] at h4
    exact h4
  have hone8 : ∀ u ∈ l.map (·.1), u.oneCell' = true := by
    intro u hu
    obtain ⟨p, hp, rfl⟩ := List.mem_map.1 hu
    obtain ⟨_, _, _, e9, _⟩ := (hsg8.own p hp).rd
    rw [e9]
    rfl
  have hs78 := hb78.size
  have H8 := Lib.hid (And.intro hX8 (And.intro hrd8 (And.intro hone8 (And.intro hsg7 (And.intro hin (And.intro hb78 hk))))))
  clear hX8 hrd8 hone8 hsg7 hin hb78 hk hsg8 hC8 e7
  rw [hw8]
  clear hw8
  go_wp2_with (first
    | (at_builtin
       refine wpList_appC rfl (.tmp 67) (.tmp 69) 26 rfl 22 _ 1 24 bs_info Tryd.underlying26 rfl (by omega) w7.heap.size w8.heap.size _ 1 _ rfl H8.out.1 hs78 _ A7 k c7 (l.map (·.1)) rfl H8.out.2.1 H8.out.2.2.1 (by omega) (by omega) ?_
       intro v9 w9 ho9 hg9 hat9 hb9
       obtain ⟨g, cap, cur, rfl, z1, z2, z3, z4, z5, z6⟩ := ho9.1.2.resolve_left (fun h => absurd h.2 (by omega))
       have HB := Lib.hid (And.intro z1 (And.intro z2 (And.intro z6 hb9)))
       clear ho9 hg9 hat9 hb9 z1 z2 z3 z4 z5 z6)
    | fail)
  have hap : ApIn w9 w.heap.size w7.heap.size g (1 + k) cur ((.slice A1 n1 c1, xs) :: l) := by
    have hb79 : Below w7.heap.size w7 w9 := H8.out.2.2.2.2.2.1.trans HB.out.2.2.2
    refine ⟨HB.out.2.1, HB.out.1, by rw [List.length_cons, H8.out.2.2.2.2.2.2]; omega, fun j p hj => ?_, fun p hp => ?_, ?_, by omega, by omega, fun p hp => ?_⟩
    · have h1 := HB.out.2.2.1
      have h2 : (cur.toList.take ((1 + k) * 1))[j]? = some p.1 := by
        rw [h1]
        have : ([Value.slice A1 n1 c1] ++ l.map (·.1)) = ((.slice A1 n1 c1, xs) :: l).map (·.1) := rfl
        rw [this, List.getElem?_map, hj]
        rfl
      have h3 := (List.getElem?_eq_some_iff.1 h2).1
      rw [List.length_take] at h3
      rw [List.getElem?_take, if_pos (by omega)] at h2
      simpa using h2
    · rcases List.mem_cons.1 hp with rfl | hp
      · exact ((H8.out.2.2.2.2.1.mono (Nat.le_refl _) hs17).below hb79 (Nat.le_refl _))
      · exact ((H8.out.2.2.2.1.own p hp).below hb79 (Nat.le_refl _)).mono hs1 (Nat.le_refl _)
    · refine List.pairwise_cons.2 ⟨fun q hq g' e1 e2 => ?_, H8.out.2.2.2.1.apart⟩
      have k1 := (H8.out.2.2.2.2.1).2 g' e1
      have k2 := ((H8.out.2.2.2.1.own q hq).1.lt g' e2).1
      omega
    · rcases List.mem_cons.1 hp with rfl | hp
      · show xs.length ≤ _; omega
      · have := H2.out.2.2.2.2.2.1 p hp
        omega
  have hb09 : Below w.heap.size w w9 := H6.out.1.trans ((H8.out.2.2.2.2.2.1.trans HB.out.2.2.2).mono H6.out.1.size)
  have HA := Lib.hid (And.intro hap hb09)
  clear hap hb09
  refine (Apart_any w.heap.size w7.heap.size g (1 + k) cap cur _ w9 HA.out.1).mono ?_
  rintro e w10 ⟨rfl, hb10⟩
  have H10 := Lib.hid (HA.out.2.trans hb10)
  clear hb10
  go_wp2_with fail
  refine (works_any w10).mono ?_
  rintro e w11 ⟨rfl, hb11⟩
  have H11 := Lib.hid (H10.out.trans (hb11.mono H10.out.size))
  clear hb11
  go_wp2_with fail
  go_ret
  exact ⟨rfl, H11.out⟩
theorem peParses_walk (w : World) (A : Option Addr) (n c : Nat) (xs : List UInt8) (h : Rd w w.heap.size A n c xs) :
    Calls Tryd.prog 3 #[.slice A n c] w fun e w' => e = .returned (.bool true) ∧ Below w.heap.size w w' := by
  by_cases h1 : n ≤ 16384
  · exact parses_main w A n c xs h h1
  · by_cases h2 : n ≤ 16777216
    · exact parses_mid w A n c (by omega) (by omega)
    · exact parses_large w A n c xs h (by omega) (by omega)
end Go.Proofs.YtlfajfmkljnodaaDoor
