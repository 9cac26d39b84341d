/- The walk of the law CertNames. -/
import Derived.Test.YtmnekhliblkibaaCase2
import Derived.Test.YtmnekhliblkibaaPlainN
namespace Go.Proofs.Ytmnekhliblkibaa
open Go.RowKit
set_option maxRecDepth 1000000
set_option linter.unusedVariables false
set_option linter.unusedSimpArgs false
set_option maxHeartbeats 8000000

theorem rdl1 (w : World) (v1 : Value) (x1 : List UInt8) (h1 : RdV w w.heap.size v1 x1) : RdL (w.alloc (.cells #[v1] 22)) (w.alloc (.cells #[v1] 22)).heap.size (some ⟨w.heap.size, 0, none⟩) 1 1 [(v1, x1)] :=
  RdL.lit w _ [(v1, x1)] [v1] _ 1 rfl rfl rfl (by omega) (fun v xs hm => by
    simp only [List.mem_cons, List.not_mem_nil, or_false, Prod.mk.injEq] at hm
    obtain ⟨rfl, rfl⟩ := hm
    exact h1)
/-- A store into a row of rows leaves rows of bytes alone. -/
theorem XS.rdt_put {w : World} {lo g n c : Nat} {l : List (Value × List UInt8)} {v v' : Value} {xs : List UInt8} (h : XS w lo (.slice (some ⟨g, 0, none⟩) n c) l) (i : Nat) (hr : RdT w v' xs) : RdT (w.setCell ⟨g, i, none⟩ v) v' xs := by
  obtain ⟨⟨h1, h2⟩, h3⟩ := h
  obtain ⟨h4, ⟨e, _⟩ | ⟨g', cap, cur, e, hb, hg, hn, hm, hs, ht⟩⟩ := h1
  · cases e
  injection e with e1 e2 e3
  injection e1 with e1
  injection e1 with e1
  subst e1
  exact hr.keep (by simp) fun g' cs fr hg' => Below.heap_setCell _ _ _ _ (fun e => by
    have e : g' = g := e
    subst e
    rw [hg] at hg'
    injection hg' with hg'
    injection hg' with _ ht2 _
    exact absurd ht2 (by decide))
/-- The cells of a case with names. -/
def Kase.nrow (k : Kase) (v0 v1 v2 va vb : Value) (tag : Nat) : Array Value := (k.row v0 v1 v2) ++ #[va, vb, .int .u8 (tag : Int)]
theorem names_main (k : Kase) (A0 A1 A2 : Option Addr) (n0 c0 n1 c1 n2 c2 : Nat) (A3 A4 : Option Addr) (n3 c3 n4 c4 tag : Nat) (xa xb : List UInt8) (w : World) (hk : k.come w A0 A1 A2 n0 c0 n1 c1 n2 c2) (htag : tag < 256)
    (h3 : Rd w w.heap.size A3 n3 c3 xa) (h4 : Rd w w.heap.size A4 n4 c4 xb) (hn3 : ¬ (300 : Int) < n3) (hn4 : ¬ (300 : Int) < n4) :
    Calls Try.prog 13 #[.agg (k.nrow (.slice A0 n0 c0) (.slice A1 n1 c1) (.slice A2 n2 c2) (.slice A3 n3 c3) (.slice A4 n4 c4) tag)] w (LawPost w) := by
  obtain ⟨N, hN⟩ : ∃ N, N = k.nrow (.slice A0 n0 c0) (.slice A1 n1 c1) (.slice A2 n2 c2) (.slice A3 n3 c3) (.slice A4 n4 c4) tag := ⟨_, rfl⟩
  rw [← hN]
  have hBN := Blk.new w 76 N
  have hb0 : Below w.heap.size w (w.alloc (.cells N 76)) := (Below.refl _ w).alloc (Nat.le_refl _) _
  have HK := Lib.hid (And.intro (hk.up hb0) (And.intro (h3.up hb0) (And.intro (h4.up hb0) hb0)))
  have hcase : ∀ j v, (k.row (.slice A0 n0 c0) (.slice A1 n1 c1) (.slice A2 n2 c2)).toList[j]? = some v → (w.alloc (.cells N 76)).cell? ⟨w.heap.size, 0 + j, none⟩ = some v := fun j v hv => by
    rw [Nat.zero_add, hBN.cell j, hN]
    unfold Kase.nrow
    have hj : j < (k.row (.slice A0 n0 c0) (.slice A1 n1 c1) (.slice A2 n2 c2)).size := by
      have := (List.getElem?_eq_some_iff.1 hv).1
      simpa using this
    rw [Array.getElem?_append_left hj]
    simpa using hv
  have q22 : N[22]? = some (.slice A3 n3 c3) := by rw [hN]; rfl
  have q23 : N[23]? = some (.slice A4 n4 c4) := by rw [hN]; rfl
  have q24 : N[24]? = some (.int .u8 (tag : Int)) := by rw [hN]; rfl
  have HC := Lib.hid (And.intro hcase (And.intro q22 (And.intro q23 (And.intro q24 hBN))))
  clear q22 q23 q24 hBN
  clear hcase hk h3 h4 hb0 hN
  go_enter Try.func13, Try.ntmps13
  go_upto_region 2 with (first
    | ((with_reducible refine at_load_case ?_); refine wpList_load_case2 rfl _ rfl w.heap.size k (.slice A0 n0 c0) (.slice A1 n1 c1) (.slice A2 n2 c2) rfl HC.out.1 ?_)
    | ((with_reducible refine at_store_case ?_); refine wpList_store_case rfl _ _ rfl (w.heap.size + 1) zrow k A0 A1 A2 n0 c0 n1 c1 n2 c2 rfl rfl rfl (Blk.new' _ _ (by simp)) ?_; intro w1 hB1 hg1)
    | fail)
  have hb01 : Below (w.heap.size + 1) (w.alloc (.cells N 76)) w1 := by
    refine Below.grown (((Below.refl _ _).alloc (by simp) _)) hg1 (by simp) (fun j hj => by cases hj; exact Nat.le_refl _)
  have hb1 : Below w.heap.size w w1 := HK.out.2.2.2.trans (hb01.mono (by omega))
  have hb01' : Below (w.alloc (.cells N 76)).heap.size (w.alloc (.cells N 76)) w1 := by simpa using hb01
  have hBN1 := HC.out.2.2.2.2.below hb01 (by omega)
  have q22 : w1.cell? ⟨w.heap.size, 22, none⟩ = some (.slice A3 n3 c3) := (hBN1.cell 22).trans HC.out.2.1
  have q23 : w1.cell? ⟨w.heap.size, 23, none⟩ = some (.slice A4 n4 c4) := (hBN1.cell 23).trans HC.out.2.2.1
  have q24 : w1.cell? ⟨w.heap.size, 24, none⟩ = some (.int .u8 (tag : Int)) := (hBN1.cell 24).trans HC.out.2.2.2.1
  have H1 := Lib.hid (And.intro (HK.out.1.up hb01') (And.intro (HK.out.2.1.up hb01') (And.intro (HK.out.2.2.1.up hb01') (And.intro hb1 hB1))))
  clear hb01 hb1 hb01' hBN1 hB1 hg1 HC HK
  go_wp2_with fail
  refine (refWrite_lit 4 4 rfl A3 n3 c3 xa w1 H1.out.2.1 (by omega)).mono ?_
  rintro en w2 ⟨B1, m1, d1, rfl, ho1, hb2⟩
  dsimp only
  have hl1 := ownB_len ho1
  have ha4 := write_lt 4 xa 300 (by have := H1.out.2.1.len; omega) (by omega)
  have hr1 := rdl1 w2 _ _ (RdV.mk ho1.rdx)
  have hb12 : Below w1.heap.size w1 (w2.alloc (.cells #[.slice B1 m1 d1] 22)) := hb2.alloc hb2.size _
  have H2 := Lib.hid (And.intro hr1 hb12)
  clear hr1 hb12 ho1 hb2 q22 q23 q24
  go_wp2_with fail
  refine (refSeq_any _ 1 1 _ _ H2.out.1 (by omega) (by unfold cat; simp only [List.map_cons, List.map_nil, List.flatten_cons, List.flatten_nil, List.append_nil]; omega)).mono ?_
  rintro en w3 ⟨B2, m2, d2, rfl, ho2, hb3⟩
  dsimp only
  have hb13 : Below w1.heap.size w1 w3 := H2.out.2.trans (hb3.mono H2.out.2.size)
  have H3 := Lib.hid (And.intro (RdT.own ho2) hb13)
  clear ho2 hb3 hb13 H2
  go_wp2_with fail
  refine (refWrite_lit 12 12 rfl A4 n4 c4 xb w3 (H1.out.2.2.1.up H3.out.2) (by omega)).mono ?_
  rintro en w4 ⟨B3, m3, d3, rfl, ho3, hb4⟩
  dsimp only
  have hb12' := write_lt 12 xb 300 (by have := H1.out.2.2.1.len; omega) (by omega)
  have hb14 : Below w1.heap.size w1 w4 := H3.out.2.trans (hb4.mono H3.out.2.size)
  have H4 := Lib.hid (And.intro (RdT.own ho3) (And.intro hb14 (H3.out.1.below hb4)))
  clear ho3 hb4 hb14
  go_wp2_with fail
  refine (refWrite_lit 4 4 rfl A3 n3 c3 xa w4 (H1.out.2.1.up H4.out.2.1) (by omega)).mono ?_
  rintro en w5 ⟨B4, m4, d4, rfl, ho4, hb5⟩
  dsimp only
  have hb15 : Below w1.heap.size w1 w5 := H4.out.2.1.trans (hb5.mono H4.out.2.1.size)
  have hr5 := rdl2 w5 _ _ _ _ (H4.out.1.below hb5).rdv (RdV.mk ho4.rdx)
  have H5 := Lib.hid (And.intro hr5 (And.intro (hb15.alloc hb15.size (.cells #[.slice B3 m3 d3, .slice B4 m4 d4] 22)) ((H4.out.2.2.below hb5).alloc (.cells #[.slice B3 m3 d3, .slice B4 m4 d4] 22))))
  clear ho4 hb5 hb15 hr5 H4 H3
  go_wp2_with fail
  refine (refSeq_any _ 2 2 _ _ H5.out.1 (by omega) (by unfold cat; simp only [List.map_cons, List.map_nil, List.flatten_cons, List.flatten_nil, List.append_nil, List.length_append]; omega)).mono ?_
  rintro en w6 ⟨B5, m5, d5, rfl, ho5, hb6⟩
  dsimp only
  have hb16 : Below w1.heap.size w1 w6 := H5.out.2.1.trans (hb6.mono H5.out.2.1.size)
  have hBc6 := H1.out.2.2.2.2.below hb16 H1.out.2.2.2.2.lt
  have H6 := Lib.hid (And.intro (RdT.own ho5) (And.intro (H5.out.2.2.below hb6) (And.intro hb16 hBc6)))
  clear ho5 hb6 hb16 H5
  go_wp2_with (first
    | ((with_reducible refine at_load_case ?_); refine wpList_load_case rfl _ rfl (w.heap.size + 1) k (.slice A0 n0 c0) (.slice A1 n1 c1) (.slice A2 n2 c2) rfl hBc6 ?_)
    | fail)
  refine (elements_any k A0 A1 A2 n0 c0 n1 c1 n2 c2 w6 (H1.out.1.up H6.out.2.2.1)).mono ?_
  rintro en w7 ⟨A8, c8, l, rfl, hX, hlm, hb7⟩
  dsimp only
  obtain ⟨g8, rfl, hgl, hgw, hll, hcells⟩ := hX.spot (by omega)
  have hs6 := H6.out.2.2.1.size
  have hs1 : w.heap.size + 1 < w1.heap.size := H1.out.2.2.2.2.lt
  have hone7 := H6.out.2.1.below hb7
  have htwo7 := H6.out.1.below hb7
  obtain ⟨⟨vi, hvi⟩, hfi⟩ := hcells 3 (by omega)
  have hX8 := hX.put 3 hone7
  have htwo8 := hX.rdt_put (v := .slice B2 m2 d2) 3 htwo7
  have hone8 := hX.rdt_put (v := .slice B2 m2 d2) 3 hone7
  obtain ⟨w8, hw8⟩ : ∃ w8, w8 = w7.setCell ⟨g8, 3, none⟩ (.slice B2 m2 d2) := ⟨_, rfl⟩
  rw [← hw8] at hX8 htwo8 hone8
  obtain ⟨g9, e9, _, _, _, hc8⟩ := hX8.spot (by omega)
  injection e9 with e9
  injection e9 with e9
  subst e9
  obtain ⟨⟨vj, hvj⟩, hfj⟩ := hc8 5 (by omega)
  have hX9 := hX8.put 5 htwo8
  have htwo9 := hX8.rdt_put (v := .slice B5 m5 d5) 5 htwo8
  have hone9 := hX8.rdt_put (v := .slice B5 m5 d5) 5 hone8
  have hb17 : Below w1.heap.size w1 w7 := H6.out.2.2.1.trans (hb7.mono hs6)
  have hb19 : Below w1.heap.size w1 (w8.setCell ⟨g8, 5, none⟩ (.slice B5 m5 d5)) := by
    rw [hw8]
    exact (hb17.setCell (show w1.heap.size ≤ g8 by omega) _).setCell (show w1.heap.size ≤ g8 by omega) _
  obtain ⟨w9, hw9⟩ : ∃ w9, w9 = w8.setCell ⟨g8, 5, none⟩ (.slice B5 m5 d5) := ⟨_, rfl⟩
  rw [← hw9] at hX9 htwo9 hone9 hb19
  obtain ⟨Av, cv, ev, hrdl⟩ := hX9.rdl
  have hl9 : ((l.set 3 (Value.slice B2 m2 d2, Ref.seq ([(Value.slice B1 m1 d1, Der.write 4 xa)].map (·.2)))).set 5 (Value.slice B5 m5 d5, Ref.seq ([(Value.slice B3 m3 d3, Der.write 12 xb), (Value.slice B4 m4 d4, Der.write 4 xa)].map (·.2)))).length = 7 := by rw [List.length_set, List.length_set]; exact hll
  injection ev with ev1 ev2 ev3
  subst ev1 ev3
  rw [hl9] at hrdl
  clear ev2 hl9
  have hmap : ((l.set 3 (Value.slice B2 m2 d2, Ref.seq ([(Value.slice B1 m1 d1, Der.write 4 xa)].map (·.2)))).set 5 (Value.slice B5 m5 d5, Ref.seq ([(Value.slice B3 m3 d3, Der.write 12 xb), (Value.slice B4 m4 d4, Der.write 4 xa)].map (·.2)))).map (·.2) = ((k.els.map (·.2.2)).set 3 (Ref.seq [Der.write 4 xa])).set 5 (Ref.seq [Der.write 12 xb, Der.write 4 xa]) := by
    rw [List.map_set, List.map_set, hlm]
    rfl
  have H9 := Lib.hid (And.intro hrdl (And.intro hmap (And.intro (show RdT w9 (.slice B2 m2 d2) (Ref.seq [Der.write 4 xa]) from hone9) (And.intro (show RdT w9 (.slice B5 m5 d5) (Ref.seq [Der.write 12 xb, Der.write 4 xa]) from htwo9) (And.intro hb19 hlm)))))
  clear hX hX8 hX9 hrdl hmap htwo7 hone7 htwo8 hone8 htwo9 hone9 hb17 hb19 hcells hc8 hlm hb7 hll
  go_upto_region 11 with fail
  rw [← hw8]
  clear hw8
  go_upto_region 12 with fail
  rw [← hw9]
  clear hw9 hvi hfi hvj hfj
  have hla : xa.length ≤ 300 := by have := H1.out.2.1.len; omega
  have hlb : xb.length ≤ 300 := by have := H1.out.2.2.1.len; omega
  have hcatb : (((k.els.map (·.2.2)).set 3 (Ref.seq [Der.write 4 xa])).set 5 (Ref.seq [Der.write 12 xb, Der.write 4 xa])).flatten.length ≤ 6000 := by
    have h0 := els_cat k H1.out.1.path
    have h1 := cat_set (k.els.map (·.2.2)) 3 (Ref.seq [Der.write 4 xa])
    have h2 := cat_set ((k.els.map (·.2.2)).set 3 (Ref.seq [Der.write 4 xa])) 5 (Ref.seq [Der.write 12 xb, Der.write 4 xa])
    have h3 := (one_wf xa hla).2.1
    have h4 := (two_wf xa xb hla hlb).2.1
    rw [one_raw] at h3
    rw [two_raw] at h4
    omega
  go_wp2_with fail
  refine (refSeq_any _ 7 _ _ w9 H9.out.1 (by omega) (by unfold cat; rw [H9.out.2.1]; omega)).mono ?_
  rw [H9.out.2.1]
  rintro en w10 ⟨C1, p1, q1, rfl, ho10, hb10⟩
  dsimp only
  have hl10 := ownB_len ho10
  have hsl : (Ref.seq (((k.els.map (·.2.2)).set 3 (Ref.seq [Der.write 4 xa])).set 5 (Ref.seq [Der.write 12 xb, Der.write 4 xa]))).length ≤ 6006 := by
    unfold Ref.seq at hcatb ⊢
    exact write_lt 48 _ 6000 hcatb (by omega)
  have H10 := Lib.hid (And.intro ho10.rdx (And.intro (H9.out.2.2.1.below hb10) (And.intro (H9.out.2.2.2.1.below hb10) (H9.out.2.2.2.2.1.trans (hb10.mono H9.out.2.2.2.2.1.size)))))
  clear ho10 hb10
  go_wp2_with fail
  refine (refWr_any C1 none p1 q1 0 0 _ [] w10 H10.out.1 Rd.none_ (by omega) (by omega)).mono ?_
  rintro en w11 ⟨C2, p2, q2, rfl, ho11, hb11⟩
  dsimp only
  have H11 := Lib.hid (And.intro ho11.rdx (And.intro (H10.out.2.1.below hb11) (And.intro (H10.out.2.2.1.below hb11) (H10.out.2.2.2.trans (hb11.mono H10.out.2.2.2.size)))))
  clear ho11 hb11 H10
  obtain ⟨s, hyes, hsi, hsu⟩ := names_parse k H1.out.1.path xa xb hla hlb
  go_wp2_with fail
  refine (parse_cert_any C2 p2 q2 _ w11 H11.out.1).mono ?_
  rintro en w12 ⟨hb12, ⟨m, hm, _⟩ | ⟨s', g', vr, vt, vi', vs, ve, vn, vg, hyes', rfl, hown, _⟩⟩
  · rw [hyes] at hm; cases hm
  rw [hyes] at hyes'
  injection hyes' with y1 y2
  subst y1 y2
  have hc12 := CI.parsed (s := s) hown
  have hone12 := hc12.one
  have hb112 : Below w1.heap.size w1 w12 := H11.out.2.2.2.trans (hb12.mono H11.out.2.2.2.size)
  have H12 := Lib.hid (And.intro hc12 (And.intro (H11.out.2.1.below hb12) (And.intro (H11.out.2.2.1.below hb12) hb112)))
  clear hc12 hown hb12 hb112 hyes hcatb hsl
  go_upto_region 13 with (first
    | ((with_reducible refine at_store_cert ?_); refine wpList_store_cert rfl _ _ rfl w12.heap.size CV.zero (s.cv vr vt vi' vs ve vn vg) rfl rfl (Blk.new w12 _ _) hone12 ?_; intro w13 hB13 hg13)
    | fail)
  have hg1213 : Below w12.heap.size w12 w13 := below_grow ((Below.refl _ w12).alloc (Nat.le_refl _) _) hg13 (Nat.le_refl _) (Nat.le_refl _)
  have hb113 : Below w1.heap.size w1 w13 := H12.out.2.2.2.trans (hg1213.mono H12.out.2.2.2.size)
  have H13 := Lib.hid (And.intro (H1.out.2.2.2.2.below hb113 H1.out.2.2.2.2.lt) (And.intro (H1.out.2.1.up hb113) (And.intro (H1.out.1.up hb113) (And.intro hB13 (And.intro (H12.out.1.below hg1213) (And.intro (H12.out.2.1.below hg1213) (And.intro (H12.out.2.2.1.below hg1213) hb113)))))))
  clear hg1213 hb113 hg13 hB13 H12 H11 H9 H6 hone12
  obtain ⟨tt, htt, ht0⟩ : ∃ tt : UInt8, bits .andNot .u8 (tag : Int) 32 = (tt.toNat : Int) ∧ tt.toNat / 32 % 2 = 0 := by
    obtain ⟨h1, h2, h3⟩ := andnot_ok tag htag
    have e : (UInt8.ofNat (bits .andNot .u8 (tag : Int) 32).toNat).toNat = (bits .andNot .u8 (tag : Int) 32).toNat := by
      rw [UInt8.toNat_ofNat']
      omega
    exact ⟨UInt8.ofNat (bits .andNot .u8 (tag : Int) 32).toNat, by rw [e]; omega, by rw [e]; exact h3⟩
  have hlw := write_lt tt xa 300 hla (by omega)
  refine wp_region_two 11 10 (JL [(fun v _ => v = k.val (.slice A0 n0 c0) (.slice A1 n1 c1) (.slice A2 n2 c2)), (fun v _ => v = .int .u8 (tag : Int)), (fun v _ => v = .int .u8 (tt.toNat : Int)), (fun v _ => v = .slice A3 n3 c3), (fun v w => RdT w v (Der.write tt xa)), (fun v w => RdT w v (Ref.wr (Ref.seq ((k.els.map (·.2.2)).set 3 (Der.write tt xa))) (k.sig.take 100))), (JP (w13.heap.size) (Ref.wr (Ref.seq ((k.els.map (·.2.2)).set 3 (Der.write tt xa))) (k.sig.take 100)) 0), (JP (w13.heap.size) (Ref.wr (Ref.seq ((k.els.map (·.2.2)).set 3 (Der.write tt xa))) (k.sig.take 100)) 0), (JP (w13.heap.size) (Ref.wr (Ref.seq ((k.els.map (·.2.2)).set 3 (Der.write tt xa))) (k.sig.take 100)) 1), (JP (w13.heap.size) (Ref.wr (Ref.seq ((k.els.map (·.2.2)).set 3 (Der.write tt xa))) (k.sig.take 100)) 2), (JP (w13.heap.size) (Ref.wr (Ref.seq ((k.els.map (·.2.2)).set 3 (Der.write tt xa))) (k.sig.take 100)) 3), (fun _ _ => True), (JP (w13.heap.size) (Ref.wr (Ref.seq ((k.els.map (·.2.2)).set 3 (Der.write tt xa))) (k.sig.take 100)) 2)]) (JV (w13.heap.size) (Ref.wr (Ref.seq ((k.els.map (·.2.2)).set 3 (Der.write tt xa))) (k.sig.take 100))) (Below w13.heap.size w13) RN (SN (w13.heap.size)) ?hm ?hmono ?hmonoS JV.rn ?hGR ?hGS ?hd ?hg ?hA ?hW ((Below.refl _ _).drew) ?hs ?hdone
  case hm => rfl
  case hmono => exact JL.rn (B := w13.heap.size) (Sta.cons (Sta.eq _ _) (Sta.cons (Sta.eq _ _) (Sta.cons (Sta.eq _ _) (Sta.cons (Sta.eq _ _) (Sta.cons (Sta.rdt _ _) (Sta.cons (Sta.rdt _ _) (Sta.cons (Sta.jp _ _ _) (Sta.cons (Sta.jp _ _ _) (Sta.cons (Sta.jp _ _ _) (Sta.cons (Sta.jp _ _ _) (Sta.cons (Sta.jp _ _ _) (Sta.cons (Sta.true _) (Sta.cons (Sta.jp _ _ _) (Sta.nil))))))))))))))
  case hmonoS => exact JL.sn (B := w13.heap.size) (Sta.cons (Sta.eq _ _) (Sta.cons (Sta.eq _ _) (Sta.cons (Sta.eq _ _) (Sta.cons (Sta.eq _ _) (Sta.cons (Sta.rdt _ _) (Sta.cons (Sta.rdt _ _) (Sta.cons (Sta.jp _ _ _) (Sta.cons (Sta.jp _ _ _) (Sta.cons (Sta.jp _ _ _) (Sta.cons (Sta.jp _ _ _) (Sta.cons (Sta.jp _ _ _) (Sta.cons (Sta.true _) (Sta.cons (Sta.jp _ _ _) (Sta.nil))))))))))))))
  case hGR => exact fun w w' h1 h2 => h1.trans (Below.mono h2 h1.size)
  case hGS => exact fun w w' h1 h2 => h1.trans h2.1
  case hd => show dstsOk _ 91 = true; decide +kernel
  case hg => decide +kernel
  case hA => decide +kernel
  case hW => decide +kernel
  case hs =>
    refine ⟨two_else (by decide) ?_, two_else (by decide) ?_, two_else (by decide) ?_, two_else (by decide) ?_, two_else (by decide) ?_, two_else (by decide) ?_, two_else (by decide) ?_, two_else (by decide) ?_, two_else (by decide) ?_, two_else (by decide) ?_, two_else (by decide) ?_, two_then ?_, two_else (by decide) ?_, trivial⟩
    · intro a W hfr hG hdep; exact N_case rfl (by simp) (hfr 3 (by decide +kernel)) (H13.out.1.below hG H13.out.1.lt)
    · intro a W hfr hG hdep; exact N_move rfl (by simp) (hfr 6 (by decide +kernel))
    · intro a W hfr hG hdep; exact N_val (by have e1 : a.eval (.tmp 58) = .int .u8 (tag : Int) := hdep 1 (by decide +kernel); simp only [execOp, e1]; simp [go_sem, htt]) (by simp) rfl
    · intro a W hfr hG hdep; exact N_move rfl (by simp) (hfr 4 (by decide +kernel))
    · intro a W hfr hG hdep; exact N_write (k := (tt.toNat : Int)) rfl (by simp) rfl (hdep 2 (by decide +kernel)) (hdep 3 (by decide +kernel)) (H13.out.2.1.up hG) (by omega)
    · intro a W hfr hG hdep; exact N_put (i := 3) rfl (by simp) (hdep 0 (by decide +kernel)) rfl (by omega) (hdep 4 (by decide +kernel)) (by omega) (H13.out.2.2.1.up hG)
    · intro a W hfr hG hdep; exact N_parse (B := w13.heap.size) rfl (by simp) (hdep 5 (by decide +kernel))
    · intro a W hfr hG hdep; exact N_move rfl (by simp) (hdep 6 (by decide +kernel))
    · intro a W hfr hG hdep; exact N_ext0 (B := w13.heap.size) rfl (by simp) (hdep 7 (by decide +kernel))
    · intro a W hfr hG hdep; exact N_ext1 (B := w13.heap.size) rfl (by simp) (hdep 7 (by decide +kernel))
    · intro a W hfr hG hdep; exact N_newc (B := w13.heap.size) (b := Ref.wr (Ref.seq ((k.els.map (·.2.2)).set 3 (Der.write tt xa))) (k.sig.take 100)) rfl (by simp) hG.size
    · intro a W hfr hG hdep; exact N_store (p := 10) (fun _ _ => trivial) rfl rfl hG.size (hdep 10 (by decide +kernel)) rfl (hdep 8 (by decide +kernel))
    · intro a W hfr hG hdep; exact N_assign rfl (by simp) (hdep 9 (by decide +kernel))
  case hdone =>
    intro a W hdf hsz hfr hG hJ hV
    have hV : JV (w13.heap.size) (Ref.wr (Ref.seq ((k.els.map (·.2.2)).set 3 (Der.write tt xa))) (k.sig.take 100)) (a.eval (.tmp 12)) W := hV
    obtain ⟨gv, Cv, hgv, hgB, hBv, hPv⟩ := hV
    have e := arr_eta a 91 hsz hdf
    rw [show (List.range 91).map (fun i => a.eval (.tmp i)) = a.eval (.tmp 0) :: a.eval (.tmp 1) :: a.eval (.tmp 2) :: a.eval (.tmp 3) :: a.eval (.tmp 4) :: a.eval (.tmp 5) :: a.eval (.tmp 6) :: a.eval (.tmp 7) :: a.eval (.tmp 8) :: a.eval (.tmp 9) :: a.eval (.tmp 10) :: a.eval (.tmp 11) :: a.eval (.tmp 12) :: a.eval (.tmp 13) :: a.eval (.tmp 14) :: a.eval (.tmp 15) :: a.eval (.tmp 16) :: a.eval (.tmp 17) :: a.eval (.tmp 18) :: a.eval (.tmp 19) :: a.eval (.tmp 20) :: a.eval (.tmp 21) :: a.eval (.tmp 22) :: a.eval (.tmp 23) :: a.eval (.tmp 24) :: a.eval (.tmp 25) :: a.eval (.tmp 26) :: a.eval (.tmp 27) :: a.eval (.tmp 28) :: a.eval (.tmp 29) :: a.eval (.tmp 30) :: a.eval (.tmp 31) :: a.eval (.tmp 32) :: a.eval (.tmp 33) :: a.eval (.tmp 34) :: a.eval (.tmp 35) :: a.eval (.tmp 36) :: a.eval (.tmp 37) :: a.eval (.tmp 38) :: a.eval (.tmp 39) :: a.eval (.tmp 40) :: a.eval (.tmp 41) :: a.eval (.tmp 42) :: a.eval (.tmp 43) :: a.eval (.tmp 44) :: a.eval (.tmp 45) :: a.eval (.tmp 46) :: a.eval (.tmp 47) :: a.eval (.tmp 48) :: a.eval (.tmp 49) :: a.eval (.tmp 50) :: a.eval (.tmp 51) :: a.eval (.tmp 52) :: a.eval (.tmp 53) :: a.eval (.tmp 54) :: a.eval (.tmp 55) :: a.eval (.tmp 56) :: a.eval (.tmp 57) :: a.eval (.tmp 58) :: a.eval (.tmp 59) :: a.eval (.tmp 60) :: a.eval (.tmp 61) :: a.eval (.tmp 62) :: a.eval (.tmp 63) :: a.eval (.tmp 64) :: a.eval (.tmp 65) :: a.eval (.tmp 66) :: a.eval (.tmp 67) :: a.eval (.tmp 68) :: a.eval (.tmp 69) :: a.eval (.tmp 70) :: a.eval (.tmp 71) :: a.eval (.tmp 72) :: a.eval (.tmp 73) :: a.eval (.tmp 74) :: a.eval (.tmp 75) :: a.eval (.tmp 76) :: a.eval (.tmp 77) :: a.eval (.tmp 78) :: a.eval (.tmp 79) :: a.eval (.tmp 80) :: a.eval (.tmp 81) :: a.eval (.tmp 82) :: a.eval (.tmp 83) :: a.eval (.tmp 84) :: a.eval (.tmp 85) :: a.eval (.tmp 86) :: a.eval (.tmp 87) :: a.eval (.tmp 88) :: a.eval (.tmp 89) :: a.eval (.tmp 90) :: [] from rfl] at e
    rw [hgv] at e
    rw [show a.eval (.tmp 13) = .int .i64 ((Cert.parse (Ref.wr (Ref.seq ((k.els.map (·.2.2)).set 3 (Der.write tt xa))) (k.sig.take 100))).err : Int) from hJ 12 (by decide)] at e
    rw [show a.eval (.tmp 2) = .bool false from hfr 2 (by decide +kernel)] at e
    rw [show a.eval (.tmp 7) = .slice B2 m2 d2 from hfr 7 (by decide +kernel)] at e
    rw [show a.eval (.tmp 8) = .slice B5 m5 d5 from hfr 8 (by decide +kernel)] at e
    rw [show a.eval (.tmp 10) = .pointer (some ⟨w12.heap.size, 0, none⟩) from hfr 10 (by decide +kernel)] at e
    rw [show a.eval (.tmp 11) = .int .i64 0 from hfr 11 (by decide +kernel)] at e
    clear hgv
    generalize a.eval (.tmp 0) = u0 at e
    generalize a.eval (.tmp 1) = u1 at e
    generalize a.eval (.tmp 3) = u3 at e
    generalize a.eval (.tmp 4) = u4 at e
    generalize a.eval (.tmp 5) = u5 at e
    generalize a.eval (.tmp 6) = u6 at e
    generalize a.eval (.tmp 9) = u9 at e
    generalize a.eval (.tmp 14) = u14 at e
    generalize a.eval (.tmp 15) = u15 at e
    generalize a.eval (.tmp 16) = u16 at e
    generalize a.eval (.tmp 17) = u17 at e
    generalize a.eval (.tmp 18) = u18 at e
    generalize a.eval (.tmp 19) = u19 at e
    generalize a.eval (.tmp 20) = u20 at e
    generalize a.eval (.tmp 21) = u21 at e
    generalize a.eval (.tmp 22) = u22 at e
    generalize a.eval (.tmp 23) = u23 at e
    generalize a.eval (.tmp 24) = u24 at e
    generalize a.eval (.tmp 25) = u25 at e
    generalize a.eval (.tmp 26) = u26 at e
    generalize a.eval (.tmp 27) = u27 at e
    generalize a.eval (.tmp 28) = u28 at e
    generalize a.eval (.tmp 29) = u29 at e
    generalize a.eval (.tmp 30) = u30 at e
    generalize a.eval (.tmp 31) = u31 at e
    generalize a.eval (.tmp 32) = u32 at e
    generalize a.eval (.tmp 33) = u33 at e
    generalize a.eval (.tmp 34) = u34 at e
    generalize a.eval (.tmp 35) = u35 at e
    generalize a.eval (.tmp 36) = u36 at e
    generalize a.eval (.tmp 37) = u37 at e
    generalize a.eval (.tmp 38) = u38 at e
    generalize a.eval (.tmp 39) = u39 at e
    generalize a.eval (.tmp 40) = u40 at e
    generalize a.eval (.tmp 41) = u41 at e
    generalize a.eval (.tmp 42) = u42 at e
    generalize a.eval (.tmp 43) = u43 at e
    generalize a.eval (.tmp 44) = u44 at e
    generalize a.eval (.tmp 45) = u45 at e
    generalize a.eval (.tmp 46) = u46 at e
    generalize a.eval (.tmp 47) = u47 at e
    generalize a.eval (.tmp 48) = u48 at e
    generalize a.eval (.tmp 49) = u49 at e
    generalize a.eval (.tmp 50) = u50 at e
    generalize a.eval (.tmp 51) = u51 at e
    generalize a.eval (.tmp 52) = u52 at e
    generalize a.eval (.tmp 53) = u53 at e
    generalize a.eval (.tmp 54) = u54 at e
    generalize a.eval (.tmp 55) = u55 at e
    generalize a.eval (.tmp 56) = u56 at e
    generalize a.eval (.tmp 57) = u57 at e
    generalize a.eval (.tmp 58) = u58 at e
    generalize a.eval (.tmp 59) = u59 at e
    generalize a.eval (.tmp 60) = u60 at e
    generalize a.eval (.tmp 61) = u61 at e
    generalize a.eval (.tmp 62) = u62 at e
    generalize a.eval (.tmp 63) = u63 at e
    generalize a.eval (.tmp 64) = u64 at e
    generalize a.eval (.tmp 65) = u65 at e
    generalize a.eval (.tmp 66) = u66 at e
    generalize a.eval (.tmp 67) = u67 at e
    generalize a.eval (.tmp 68) = u68 at e
    generalize a.eval (.tmp 69) = u69 at e
    generalize a.eval (.tmp 70) = u70 at e
    generalize a.eval (.tmp 71) = u71 at e
    generalize a.eval (.tmp 72) = u72 at e
    generalize a.eval (.tmp 73) = u73 at e
    generalize a.eval (.tmp 74) = u74 at e
    generalize a.eval (.tmp 75) = u75 at e
    generalize a.eval (.tmp 76) = u76 at e
    generalize a.eval (.tmp 77) = u77 at e
    generalize a.eval (.tmp 78) = u78 at e
    generalize a.eval (.tmp 79) = u79 at e
    generalize a.eval (.tmp 80) = u80 at e
    generalize a.eval (.tmp 81) = u81 at e
    generalize a.eval (.tmp 82) = u82 at e
    generalize a.eval (.tmp 83) = u83 at e
    generalize a.eval (.tmp 84) = u84 at e
    generalize a.eval (.tmp 85) = u85 at e
    generalize a.eval (.tmp 86) = u86 at e
    generalize a.eval (.tmp 87) = u87 at e
    generalize a.eval (.tmp 88) = u88 at e
    generalize a.eval (.tmp 89) = u89 at e
    generalize a.eval (.tmp 90) = u90 at e
    subst e
    clear hfr hJ hsz hdf
    clear hPv hBv hgB
    have herr : ((Cert.parse (Ref.wr (Ref.seq ((k.els.map (·.2.2)).set 3 (Der.write tt xa))) (k.sig.take 100))).err : Int) = 9 := by rw [put3_parse k H1.out.1.path tt xa ht0 hla]; rfl
    rw [herr]
    clear herr hlw htt ht0
    have hci := H13.out.2.2.2.2.1.below hG
    obtain ⟨D1, r1, s1, hd1, hrd1, _⟩ := hci.iss
    obtain ⟨D2, r2, s2, hd2, hrd2, _⟩ := hci.sub
    rw [hsi] at hrd1
    rw [hsu] at hrd2
    have hBW := H13.out.2.2.2.1.below hG H13.out.2.2.2.1.lt
    have k2 : W.cell? ⟨w12.heap.size, 2, none⟩ = some (.slice D1 r1 s1) := (hBW.at_ 2).trans (by rw [← hd1]; rfl)
    have k3 : W.cell? ⟨w12.heap.size, 3, none⟩ = some (.slice D2 r2 s2) := (hBW.at_ 3).trans (by rw [← hd2]; rfl)
    obtain ⟨E1, t1, u1', he1, hre1, _⟩ := H13.out.2.2.2.2.2.1.below hG
    obtain ⟨E2, t2, u2', he2, hre2, _⟩ := H13.out.2.2.2.2.2.2.1.below hG
    injection he1 with f1 f2 f3
    subst f1 f2 f3
    injection he2 with f1 f2 f3
    subst f1 f2 f3
    have ks1 := run_string hrd1 9 Try.underlying9
    have ks2 := run_string hrd2 9 Try.underlying9
    have ks3 := run_string hre1 9 Try.underlying9
    have ks4 := run_string hre2 9 Try.underlying9
    have hbw13 := H13.out.2.2.2.2.2.2.2
    have hbw := (H1.out.2.2.2.1.trans (hbw13.mono (by omega))).trans (hG.mono (by have := hbw13.size; omega))
    have HW := Lib.hid hbw
    clear hbw hbw13 hci hrd1 hrd2 hre1 hre2 hBW hd1 hd2 H13 hG
    go_wp2_with fail
    refine (works12_any _).mono ?_
    rintro e wz ⟨rfl, hbz⟩
    go_wp2
    go_ret
    exact ⟨rfl, HW.out.trans (hbz.mono HW.out.size)⟩

theorem names_large (N : Array Value) (A3 A4 : Option Addr) (n3 c3 n4 c4 : Nat) (v6 : Value) (k : Kase) (A0 A1 A2 : Option Addr) (n0 c0 n1 c1 n2 c2 : Nat) (w : World) (hN : N = (k.row (.slice A0 n0 c0) (.slice A1 n1 c1) (.slice A2 n2 c2)) ++ #[.slice A3 n3 c3, .slice A4 n4 c4, v6]) (tag : Int) (h6 : v6 = .int .u8 tag) (hn : (300 : Int) < n3 ∨ (300 : Int) < n4) :
    Calls Try.prog 13 #[.agg N] w (LawPost w) := by
  have hBN := Blk.new w 76 N
  have hcase : ∀ j v, (k.row (.slice A0 n0 c0) (.slice A1 n1 c1) (.slice A2 n2 c2)).toList[j]? = some v → (w.alloc (.cells N 76)).cell? ⟨w.heap.size, 0 + j, none⟩ = some v := fun j v hv => by
    rw [Nat.zero_add, hBN.cell j, hN]
    have hj : j < (k.row (.slice A0 n0 c0) (.slice A1 n1 c1) (.slice A2 n2 c2)).size := by
      have := (List.getElem?_eq_some_iff.1 hv).1
      simpa using this
    rw [Array.getElem?_append_left hj]
    simpa using hv
  have q22 : N[22]? = some (.slice A3 n3 c3) := by rw [hN]; rfl
  have q23 : N[23]? = some (.slice A4 n4 c4) := by rw [hN]; rfl
  have q24 : N[24]? = some (.int .u8 tag) := by rw [hN, h6]; rfl
  have HC := Lib.hid (And.intro hcase (And.intro q22 (And.intro q23 (And.intro q24 hBN))))
  clear q22 q23 q24 hBN hcase hN h6
  go_enter Try.func13, Try.ntmps13
  go_upto_region 2 with (first
    | ((with_reducible refine at_load_case ?_); refine wpList_load_case2 rfl _ rfl w.heap.size k (.slice A0 n0 c0) (.slice A1 n1 c1) (.slice A2 n2 c2) rfl HC.out.1 ?_)
    | ((with_reducible refine at_store_case ?_); refine wpList_store_case rfl _ _ rfl (w.heap.size + 1) zrow k A0 A1 A2 n0 c0 n1 c1 n2 c2 rfl rfl rfl (Blk.new' _ _ (by simp)) ?_; intro w1 hB1 hg1)
    | fail)
  have hb01 : Below (w.heap.size + 1) (w.alloc (.cells N 76)) w1 := by
    refine Below.grown (((Below.refl _ _).alloc (by simp) _)) hg1 (by simp) (fun j hj => by cases hj; exact Nat.le_refl _)
  have hb1 : Below w.heap.size w w1 := ((Below.refl _ w).alloc (Nat.le_refl _) _).trans (hb01.mono (by omega))
  have hBN1 := HC.out.2.2.2.2.below hb01 (by omega)
  have q22 : w1.cell? ⟨w.heap.size, 22, none⟩ = some (.slice A3 n3 c3) := (hBN1.cell 22).trans HC.out.2.1
  have q23 : w1.cell? ⟨w.heap.size, 23, none⟩ = some (.slice A4 n4 c4) := (hBN1.cell 23).trans HC.out.2.2.1
  have q24 : w1.cell? ⟨w.heap.size, 24, none⟩ = some (.int .u8 tag) := (hBN1.cell 24).trans HC.out.2.2.2.1
  have H1 := Lib.hid hb1
  clear hb01 hb1 hBN1 hB1 hg1 HC
  by_cases h3 : (300 : Int) < n3
  · clear hn
    go_wp2_with fail
    refine (works12_any _).mono ?_
    rintro e wz ⟨rfl, hbz⟩
    go_wp2
    go_ret
    exact ⟨rfl, H1.out.trans (hbz.mono H1.out.size)⟩
  · have h4 := hn.resolve_left h3
    clear hn
    go_wp2_with fail
    refine (works12_any _).mono ?_
    rintro e wz ⟨rfl, hbz⟩
    go_wp2
    go_ret
    exact ⟨rfl, H1.out.trans (hbz.mono H1.out.size)⟩
theorem certNames_walk (w : World) (k : Kase) (A0 A1 A2 : Option Addr) (n0 c0 n1 c1 n2 c2 : Nat) (A3 A4 : Option Addr) (n3 c3 n4 c4 tag : Nat) (xa xb : List UInt8) (hk : k.come w A0 A1 A2 n0 c0 n1 c1 n2 c2) (htag : tag < 256)
    (h3 : Rd w w.heap.size A3 n3 c3 xa) (h4 : Rd w w.heap.size A4 n4 c4 xb) :
    Calls Try.prog 13 #[.agg (k.nrow (.slice A0 n0 c0) (.slice A1 n1 c1) (.slice A2 n2 c2) (.slice A3 n3 c3) (.slice A4 n4 c4) tag)] w fun e w' => e = .returned (.bool true) ∧ Below w.heap.size w w' := by
  by_cases hn3 : (300 : Int) < n3
  · exact names_large _ A3 A4 n3 c3 n4 c4 _ k A0 A1 A2 n0 c0 n1 c1 n2 c2 w rfl _ rfl (.inl hn3)
  by_cases hn4 : (300 : Int) < n4
  · exact names_large _ A3 A4 n3 c3 n4 c4 _ k A0 A1 A2 n0 c0 n1 c1 n2 c2 w rfl _ rfl (.inr hn4)
  exact names_main k A0 A1 A2 n0 c0 n1 c1 n2 c2 A3 A4 n3 c3 n4 c4 tag xa xb w hk htag h3 h4 hn3 hn4
end Go.Proofs.Ytmnekhliblkibaa
