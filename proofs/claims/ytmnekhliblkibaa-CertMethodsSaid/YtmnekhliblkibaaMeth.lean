/- The walk of the law CertMethods. -/
import Derived.Test.YtmnekhliblkibaaStrangeA
import Derived.Test.YtmnekhliblkibaaPlainM
namespace Go.Proofs.Ytmnekhliblkibaa
open Go.RowKit
set_option maxRecDepth 1000000
set_option linter.unusedVariables false
set_option linter.unusedSimpArgs false
set_option maxHeartbeats 8000000

theorem methods_own (k : Kase) (A0 A1 A2 : Option Addr) (n0 c0 n1 c1 n2 c2 : Nat) (A3 : Option Addr) (n3 c3 : Nat) (zs : List Nat) (w : World) (hk : k.come w A0 A1 A2 n0 c0 n1 c1 n2 c2)
    (h3 : RdU w w.heap.size A3 n3 c3 zs) (hc : ¬ (Der.putOid zs).length = 0 ∧ ¬ 300 < (Der.putOid zs).length) :
    Calls Try.prog 11 #[k.val (.slice A0 n0 c0) (.slice A1 n1 c1) (.slice A2 n2 c2), .slice A3 n3 c3] w (LawPost w) := by
  obtain ⟨w0, hw0, hKB0⟩ : ∃ w0, w0 = w.alloc (.cells (k.row (.slice A0 n0 c0) (.slice A1 n1 c1) (.slice A2 n2 c2)) 42) ∧ Blk w0 w.heap.size 42 (k.row (.slice A0 n0 c0) (.slice A1 n1 c1) (.slice A2 n2 c2)) := ⟨_, rfl, Blk.new w _ _⟩
  have hb0 : Below w.heap.size w w0 := by rw [hw0]; exact (Below.refl _ w).alloc (Nat.le_refl _) _
  have HK := Lib.hid (And.intro hKB0 (And.intro (h3.up hb0) (And.intro (hk.up hb0) hb0)))
  clear hk h3 hKB0 hb0
  obtain ⟨KV, hKV⟩ : ∃ KV, KV = k.val (.slice A0 n0 c0) (.slice A1 n1 c1) (.slice A2 n2 c2) := ⟨_, rfl⟩
  have hKV2 : KV = Value.agg (k.row (.slice A0 n0 c0) (.slice A1 n1 c1) (.slice A2 n2 c2)) := hKV
  rw [← hKV]
  clear hKV
  subst hKV2
  go_enter Try.func11, Try.ntmps11
  go_upto_region 1 with fail
  rw [← hw0]
  clear hw0
  go_wp2_with fail
  refine (refOid_any A3 n3 c3 zs w0 HK.out.2.1).mono ?_
  rintro en w1 ⟨B, m, d, rfl, ho1, hb1⟩
  have hl1 := ownB_len ho1
  have hS := oidOf_purp zs HK.out.2.1.small
  have H1 := Lib.hid (And.intro (HK.out.1.below hb1 HK.out.1.lt) (And.intro (HK.out.2.2.1.up hb1) (HK.out.2.2.2.trans (hb1.mono HK.out.2.2.2.size))))
  have hz : ((m : Int) == 0) = false := by simp; omega
  have h300' : ¬ (300 : Int) < m := by omega
  have hX : X.oidOf zs = Der.putOid zs := by unfold X.oidOf; rw [if_neg]; rintro (h | h) <;> omega
  rw [hX] at hS
  clear hc hX
  generalize Der.putOid zs = b at ho1 hS
  have H2 := Lib.hid (And.intro H1.out.1 (And.intro H1.out.2.1 (And.intro H1.out.2.2 (And.intro (RdT.own (ho1.mono (Nat.le_refl _) (Nat.le_refl _))) hS))))
  clear H1 HK ho1 hb1 hS hl1
  have hbl : b.length ≤ 300 := H2.out.2.2.2.2.1
  obtain ⟨Ab, nb, cb, eb, hrb, _⟩ := H2.out.2.2.2.1
  injection eb with eb1 eb2 eb3
  subst eb1 eb2 eb3
  go_wp2_with fail
  refine (refWrite_lit 6 6 rfl B m d b w1 hrb (by have := hrb.len; omega)).mono ?_
  rintro en w3 ⟨A3, n3, c3, rfl, ho3, hb3⟩
  dsimp only
  have hw3 := write_lt 6 b 300 hbl (by omega)
  obtain ⟨w4, hw4⟩ : ∃ w4, w4 = w3.alloc (.cells #[.int .u8 5, .int .u8 0] 5) := ⟨_, rfl⟩
  have hbw4 : Below w3.heap.size w3 w4 := by rw [hw4]; exact (Below.refl _ w3).alloc (Nat.le_refl _) _
  have hsw4 : w4.heap.size = w3.heap.size + 1 := by rw [hw4]; simp
  have hr4 : RdT w4 (.slice (some ⟨w3.heap.size, 0, none⟩) 2 2) [5, 0] := by rw [hw4]; exact RdT.blk (heap_alloc_new w3 _) (Rd.lit w3 5 [5, 0] [.int .u8 5, .int .u8 0] _ 2 rfl rfl rfl (by omega))
  obtain ⟨w5, hw5⟩ : ∃ w5, w5 = w4.alloc (.cells #[.slice A3 n3 c3, .slice (some ⟨w3.heap.size, 0, none⟩) 2 2] 22) := ⟨_, rfl⟩
  have hbw5 : Below w4.heap.size w4 w5 := by rw [hw5]; exact (Below.refl _ w4).alloc (Nat.le_refl _) _
  have hsw5 : w5.heap.size = w4.heap.size + 1 := by rw [hw5]; simp
  have hX5 : XS w5 w4.heap.size (.slice (some ⟨w4.heap.size, 0, none⟩) 2 2) [(.slice A3 n3 c3, Der.write 6 b), (.slice (some ⟨w3.heap.size, 0, none⟩) 2 2, [5, 0])] := by
    rw [hw5]
    refine XS.lit w4 [(.slice A3 n3 c3, Der.write 6 b), (.slice (some ⟨w3.heap.size, 0, none⟩) 2 2, [5, 0])] _ _ 2 rfl rfl rfl (by omega) (fun p hp => ?_)
    simp only [List.mem_cons, List.not_mem_nil, or_false] at hp
    rcases hp with rfl | rfl
    · exact (RdT.own ho3).below hbw4
    · exact hr4
  rw [hsw4] at hX5
  obtain ⟨Ax, cx, ex, hrdl⟩ := hX5.rdl
  injection ex with ex1 ex2 ex3
  subst ex1 ex3
  clear ex2
  have hbx : Below w1.heap.size w1 w5 := (hb3.trans (hbw4.mono hb3.size)).trans (hbw5.mono (by have := hb3.size; omega))
  have hHS := Lib.hid (And.intro hrdl (And.intro hbx hw3))
  clear hrdl hbx hX5 hr4 ho3 hrb hb3 hbw4 hbw5 hw3
  go_wp2_with fail
  rw [← hw4, ← hw5]
  clear hw4 hw5 hsw4 hsw5
  refine (refSeq_any _ _ _ _ w5 hHS.out.1 (by simp) (by unfold cat; simp only [List.map_cons, List.map_nil, List.flatten_cons, List.flatten_nil, List.append_nil, List.length_append]; have := hHS.out.2.2; simp; omega)).mono ?_
  rintro en w6 ⟨A6, n6, c6, rfl, ho6, hb6⟩
  dsimp only
  have hG := hHS.out.2.1.trans (hb6.mono hHS.out.2.1.size)
  have hra : RdT w6 (.slice A6 n6 c6) (Ref.seq [Der.write 6 b, [5, 0]]) := RdT.own (ho6.mono (Nat.le_refl _) (Nat.le_refl _))
  have hP1 := put2_parse k H2.out.2.1.path H2.out.2.2.2.2
  have hP2 := outer_parse k H2.out.2.1.path H2.out.2.2.2.2
  have hP3 := put6_parse k H2.out.2.1.path H2.out.2.2.2.2
  have hP4 := signs_iff (b := b) hbl
  unfold X.kind at hP3
  rw [algo_raw] at hP4
  have hall := (algo_len b hbl).2
  rw [algo_raw] at hall
  obtain ⟨al, hal⟩ : ∃ al, Ref.seq [Der.write 6 b, [5, 0]] = al := ⟨_, rfl⟩
  rw [hal] at hP1 hP2 hP3 hP4 hra hall
  have hP := Lib.hid (And.intro hP1 (And.intro hP2 (And.intro hP3 hP4)))
  have hbC : Blk w6 w.heap.size 42 (k.row (.slice A0 n0 c0) (.slice A1 n1 c1) (.slice A2 n2 c2)) := H2.out.1.below hG H2.out.1.lt
  have H6 := Lib.hid (And.intro hbC (And.intro (H2.out.2.1.up hG) (And.intro (H2.out.2.2.1.trans (hG.mono H2.out.2.2.1.size)) (And.intro (H2.out.2.2.2.1.below hG) hra))))
  clear hP1 hP2 hP3 hP4 hal hra hG ho6 hb6 hHS H2 hbC
  go_wp2_with (first
    | ((with_reducible refine at_load_case ?_); refine wpList_load_case rfl _ rfl w.heap.size k (.slice A0 n0 c0) (.slice A1 n1 c1) (.slice A2 n2 c2) rfl H6.out.1 ?_)
    | fail)
  refine (elements_any k A0 A1 A2 n0 c0 n1 c1 n2 c2 w6 H6.out.2.1).mono ?_
  rintro en w7 ⟨A7, c7, l7, rfl, hX7, hl7, hb7⟩
  have H7a := Lib.hid (And.intro (H6.out.1.below hb7 H6.out.1.lt) (And.intro (H6.out.2.1.up hb7) (And.intro (H6.out.2.2.1.trans (hb7.mono H6.out.2.2.1.size)) (And.intro (H6.out.2.2.2.1.below hb7) (H6.out.2.2.2.2.below hb7)))))
  have H7 := Lib.hid (And.intro H7a.out.1 (And.intro H7a.out.2.1 (And.intro H7a.out.2.2.1 (And.intro H7a.out.2.2.2.1 (And.intro H7a.out.2.2.2.2 hX7)))))
  have hL7 := Lib.hid hl7
  obtain ⟨Ae, ce, ee, hrd7⟩ := hX7.rdl
  injection ee with ee1 ee2 ee3
  subst ee1 ee3
  rw [← ee2] at hrd7
  clear ee2
  obtain ⟨be, oe, rfl, hbe⟩ := hrd7.plain (by omega)
  obtain ⟨A8, n8, c8, x8, hx8, k8, hr8⟩ := hrd7.part (k := 2) (by omega)
  have hx8s : x8 = Ref.signAlg := by
    have h1 := congrArg (fun z => z[2]?) hl7
    simp only [List.getElem?_map, hx8, Option.map_some] at h1
    have h2 : (k.els[2]?).map (·.2.2) = some Ref.signAlg := by rw [← alg_raw]; rfl
    rw [h2] at h1
    injection h1
  rw [hx8s] at hr8
  clear hx8s hx8
  obtain ⟨Aq, nq6, cq, eq6, hrA, _⟩ := H7.out.2.2.2.2.1
  injection eq6 with eq1 eq2 eq3
  subst eq1 eq2 eq3
  have ks1 : ∀ z, (convert 22 9 (.slice A6 n6 c6)).run Try.prog (w7.drewN z) = .ok (.string ⟨al.toArray⟩) (w7.drewN z) := fun z => run_string (hrA.drewN z) 9 Try.underlying9
  have ks2 : ∀ z, (convert 22 9 (.slice A8 n8 c8)).run Try.prog (w7.drewN z) = .ok (.string ⟨Ref.signAlg.toArray⟩) (w7.drewN z) := fun z => run_string (hr8.drewN z) 9 Try.underlying9
  clear hrA hr8 hrd7 hX7 hl7 hb7 H6 H7a
  go_upto_region 6 with fail
  go_quiet (fail)
  obtain ⟨w8, hw8⟩ : ∃ w8, w8 = w7.drewN nq := ⟨_, rfl⟩
  have hb78 : Below w7.heap.size w7 w8 := by rw [hw8]; exact below_drewN (Below.refl _ _) nq
  rw [← hw8, hP.out.2.2.2]
  clear hw8 ks1 ks2 k8
  obtain ⟨sg, hsg⟩ : ∃ sg, (b == X.signOid) = sg := ⟨_, rfl⟩
  rw [hsg]
  have hsd : b = X.signOid ↔ sg = true := by rw [← hsg, beq_iff_eq]
  have he2 : ((Cert.parse (Ref.wr (Ref.seq ((k.els.map (·.2.2)).set 2 al)) (k.sig.take 100))).err : Int) = if sg then 0 else 9 := by
    rw [hP.out.1]
    by_cases h : b = X.signOid
    · rw [if_pos h, if_pos (hsd.1 h)]; rfl
    · rw [if_neg h, if_neg (fun e => h (hsd.2 e))]; rfl
  have heo : ((Cert.parse (Ref.seq [Ref.seq (k.els.map (·.2.2)), al, Der.write 3 [0]])).err : Int) = if sg then 0 else 9 := by
    obtain ⟨so, hso⟩ := hP.out.2.1
    rw [hso]
    by_cases h : b = X.signOid
    · rw [if_pos h, if_pos (hsd.1 h)]; rfl
    · rw [if_neg h, if_neg (fun e => h (hsd.2 e))]; rfl
  obtain ⟨er, her⟩ : ∃ er : Int, er = if sg then 0 else 9 := ⟨_, rfl⟩
  rw [← her] at he2 heo
  have hPE := Lib.hid (And.intro he2 (And.intro heo hP.out.2.2.1))
  have hER := Lib.hid her
  clear he2 heo her hsd hsg hP
  have H8 := Lib.hid (And.intro (H7.out.1.below hb78 H7.out.1.lt) (And.intro (H7.out.2.1.up hb78) (And.intro (H7.out.2.2.1.trans (hb78.mono H7.out.2.2.1.size)) (And.intro (H7.out.2.2.2.1.below hb78) (And.intro (H7.out.2.2.2.2.1.below hb78) (H7.out.2.2.2.2.2.below hb78))))))
  clear hb78 H7
  have HPT := Lib.hid (show Calls Try.prog 34 #[k.val (.slice A0 n0 c0) (.slice A1 n1 c1) (.slice A2 n2 c2), .int .i64 2, .slice A6 n6 c6] w8 (RetOwn (Ref.wr (Ref.seq ((k.els.map (·.2.2)).set 2 al)) (k.sig.take 100)) w8) from put_any k A0 A1 A2 n0 c0 n1 c1 n2 c2 w8 H8.out.2.1 2 (by omega) A6 n6 c6 al H8.out.2.2.2.2.1 (by omega))
  go_upto_region 8 with (first
    | ((with_reducible refine at_load_case ?_); refine wpList_load_case rfl _ rfl w.heap.size k (.slice A0 n0 c0) (.slice A1 n1 c1) (.slice A2 n2 c2) rfl H8.out.1 ?_)
    | (go_at_call 34; refine HPT.out.mono ?_; rintro en w9 ⟨A9, n9, c9, rfl, ho9, hb9⟩)
    | (go_at_call 16; refine (parse_pc A9 n9 c9 _ w9 (ho9.mono (Nat.le_refl _) (Nat.le_refl _)).rdx).mono ?_; rintro en w10 ⟨hb10, C1, rfl, hPc1⟩; have hone := hPc1.one)
    | ((with_reducible refine at_store_cert ?_); refine wpList_store_cert rfl _ _ rfl w10.heap.size CV.zero C1 rfl rfl (Blk.new w10 _ _) hone ?_; intro w11 hB11 hg11)
    | fail)
  have hg3 : Below w10.heap.size w10 w11 := below_grow ((Below.refl _ w10).alloc (Nat.le_refl _) _) hg11 (Nat.le_refl _) (Nat.le_refl _)
  have hG : Below w8.heap.size w8 w11 := (hb9.trans (hb10.mono hb9.size)).trans (hg3.mono (by have := hb9.size; have := hb10.size; omega))
  rw [hPE.out.1]
  have H11 := Lib.hid (And.intro (H8.out.1.below hG H8.out.1.lt) (And.intro (H8.out.2.1.up hG) (And.intro (H8.out.2.2.1.trans (hG.mono H8.out.2.2.1.size)) (And.intro (H8.out.2.2.2.1.below hG) (And.intro (H8.out.2.2.2.2.1.below hG) (H8.out.2.2.2.2.2.below hG))))))
  obtain ⟨g9, hg9⟩ : ∃ g, g = w10.heap.size := ⟨_, rfl⟩
  rw [← hg9]
  clear hg9 hg3 hG hone hPc1 hB11 hg11 hb9 hb10 ho9 HPT H8
  obtain ⟨Ay, cy, ey, hrdy⟩ := H11.out.2.2.2.2.2.rdl
  injection ey with y1 y2 y3
  subst y1 y3
  rw [← y2] at hrdy
  have HRY := Lib.hid (And.intro hrdy y2)
  clear hrdy y2
  go_wp2_with fail
  refine (refSeq_any _ 7 _ l7 w11 HRY.out.1 (by omega) (by unfold cat; rw [hL7.out]; have := els_few k; unfold raws at this; omega)).mono ?_
  rintro en w12 ⟨A12, n12, c12, rfl, ho12, hb12⟩
  dsimp only
  rw [hL7.out] at ho12
  have hl12 : (Ref.seq (k.els.map (·.2.2))).length ≤ 1747 := write_lt 48 (raws k.els) 1741 (els_few k) (by omega)
  obtain ⟨w13, hw13⟩ : ∃ w13, w13 = w12.alloc (.cells #[.int .u8 0] 5) := ⟨_, rfl⟩
  have hbw13 : Below w12.heap.size w12 w13 := by rw [hw13]; exact (Below.refl _ w12).alloc (Nat.le_refl _) _
  have hsw13 : w13.heap.size = w12.heap.size + 1 := by rw [hw13]; simp
  have hr13 : RdT w13 (.slice (some ⟨w12.heap.size, 0, none⟩) 1 1) [0] := by rw [hw13]; exact RdT.blk (heap_alloc_new w12 _) (Rd.lit w12 5 [0] [.int .u8 0] _ 1 rfl rfl rfl (by omega))
  have hrd13 : Rd w13 w13.heap.size (some ⟨w12.heap.size, 0, none⟩) 1 1 [0] := by rw [hw13]; exact Rd.lit w12 5 [0] [.int .u8 0] _ 1 rfl rfl rfl (by omega)
  have HR13 := Lib.hid (And.intro hrd13 (And.intro (RdT.own (ho12.mono (Nat.le_refl _) (Nat.le_refl _))) (And.intro hb12 (And.intro hbw13 hl12))))
  clear hrd13 hr13 ho12 hb12 hbw13 hsw13 hl12
  go_wp2_with fail
  rw [← hw13]
  clear hw13
  refine (refWrite_lit 3 3 rfl (some ⟨w12.heap.size, 0, none⟩) 1 1 [0] w13 HR13.out.1 (by omega)).mono ?_
  rintro en w14 ⟨A14, n14, c14, rfl, ho14, hb14⟩
  dsimp only
  have hb1214 : Below w12.heap.size w12 w14 := HR13.out.2.2.2.1.trans (hb14.mono HR13.out.2.2.2.1.size)
  have hb1114 : Below w11.heap.size w11 w14 := HR13.out.2.2.1.trans (hb1214.mono HR13.out.2.2.1.size)
  obtain ⟨w15, hw15⟩ : ∃ w15, w15 = w14.alloc (.cells #[.slice A12 n12 c12, .slice A6 n6 c6, .slice A14 n14 c14] 22) := ⟨_, rfl⟩
  have hbw15 : Below w14.heap.size w14 w15 := by rw [hw15]; exact (Below.refl _ w14).alloc (Nat.le_refl _) _
  have hsw15 : w15.heap.size = w14.heap.size + 1 := by rw [hw15]; simp
  have hX15 : XS w15 w14.heap.size (.slice (some ⟨w14.heap.size, 0, none⟩) 3 3) [(.slice A12 n12 c12, Ref.seq (k.els.map (·.2.2))), (.slice A6 n6 c6, al), (.slice A14 n14 c14, Der.write 3 [0])] := by
    rw [hw15]
    refine XS.lit w14 [(.slice A12 n12 c12, Ref.seq (k.els.map (·.2.2))), (.slice A6 n6 c6, al), (.slice A14 n14 c14, Der.write 3 [0])] _ _ 3 rfl rfl rfl (by omega) (fun p hp => ?_)
    simp only [List.mem_cons, List.not_mem_nil, or_false] at hp
    rcases hp with rfl | rfl | rfl
    · exact HR13.out.2.1.below hb1214
    · exact H11.out.2.2.2.2.1.below hb1114
    · exact RdT.own (ho14.mono (Nat.le_refl _) (Nat.le_refl _))
  obtain ⟨Ax5, cx5, ex5, hrdl5⟩ := hX15.rdl
  injection ex5 with ex51 ex52 ex53
  subst ex51 ex53
  clear ex52
  have hb1115 := hb1114.trans (hbw15.mono hb1114.size)
  have HR15 := Lib.hid (And.intro hrdl5 (And.intro hb1115 HR13.out.2.2.2.2))
  clear hrdl5 hX15 ho14 hb14 hb1214 hb1114 hb1115 hbw15 hsw15 HR13
  go_wp2_with fail
  rw [← hw15]
  clear hw15
  refine (refSeq_any _ _ _ _ w15 HR15.out.1 (by simp) (by unfold cat; have h3 : (Der.write 3 [0]).length ≤ 7 := write_lt 3 [0] 1 (by simp) (by omega); have := HR15.out.2.2; simp only [List.map_cons, List.map_nil, List.flatten_cons, List.flatten_nil, List.append_nil, List.length_append]; omega)).mono ?_
  rintro en w16 ⟨A16, n16, c16, rfl, ho16, hb16⟩
  dsimp only
  have ho16 : OwnB w16 w15.heap.size w16.heap.size (.slice A16 n16 c16) (Ref.seq [Ref.seq (k.els.map (·.2.2)), al, Der.write 3 [0]]) := ho16
  have hb1116 := HR15.out.2.1.trans (hb16.mono HR15.out.2.1.size)
  go_upto_region 10 with (first
    | (go_at_call 16; refine (parse_pc A16 n16 c16 _ w16 (ho16.mono (Nat.le_refl _) (Nat.le_refl _)).rdx).mono ?_; rintro en w17 ⟨hb17, C2, rfl, hPc2⟩; have hone := hPc2.one)
    | ((with_reducible refine at_store_cert ?_); refine wpList_store_cert rfl _ _ rfl w17.heap.size CV.zero C2 rfl rfl (Blk.new w17 _ _) hone ?_; intro w18 hB18 hg18)
    | fail)
  have hg3 : Below w17.heap.size w17 w18 := below_grow ((Below.refl _ w17).alloc (Nat.le_refl _) _) hg18 (Nat.le_refl _) (Nat.le_refl _)
  have hG : Below w11.heap.size w11 w18 := (hb1116.trans (hb17.mono hb1116.size)).trans (hg3.mono (by have := hb1116.size; have := hb17.size; omega))
  rw [hPE.out.2.1]
  have H18 := Lib.hid (And.intro (H11.out.1.below hG H11.out.1.lt) (And.intro (H11.out.2.1.up hG) (And.intro (H11.out.2.2.1.trans (hG.mono H11.out.2.2.1.size)) (And.intro (H11.out.2.2.2.1.below hG) (And.intro (H11.out.2.2.2.2.1.below hG) (H11.out.2.2.2.2.2.below hG))))))
  obtain ⟨g17, hg17⟩ : ∃ g, g = w17.heap.size := ⟨_, rfl⟩
  rw [← hg17]
  clear hg17 hg3 hG hone hPc2 hB18 hg18 hb17 hb1116 hb16 ho16 HR15 HRY H11
  obtain ⟨w19, hw19⟩ : ∃ w19, w19 = w18.alloc (.cells #[.int .u8 0] 5) := ⟨_, rfl⟩
  have hbw19 : Below w18.heap.size w18 w19 := by rw [hw19]; exact (Below.refl _ w18).alloc (Nat.le_refl _) _
  have hsw19 : w19.heap.size = w18.heap.size + 1 := by rw [hw19]; simp
  have hr19 : RdT w19 (.slice (some ⟨w18.heap.size, 0, none⟩) 1 1) [0] := by rw [hw19]; exact RdT.blk (heap_alloc_new w18 _) (Rd.lit w18 5 [0] [.int .u8 0] _ 1 rfl rfl rfl (by omega))
  obtain ⟨w20, hw20⟩ : ∃ w20, w20 = w19.alloc (.cells #[.int .u8 2, .int .u8 1, .int .u8 5] 5) := ⟨_, rfl⟩
  have hbw20 : Below w19.heap.size w19 w20 := by rw [hw20]; exact (Below.refl _ w19).alloc (Nat.le_refl _) _
  have hsw20 : w20.heap.size = w19.heap.size + 1 := by rw [hw20]; simp
  have hr20 : RdT w20 (.slice (some ⟨w19.heap.size, 0, none⟩) 3 3) [2, 1, 5] := by rw [hw20]; exact RdT.blk (heap_alloc_new w19 _) (Rd.lit w19 5 [2, 1, 5] [.int .u8 2, .int .u8 1, .int .u8 5] _ 3 rfl rfl rfl (by omega))
  obtain ⟨w21, hw21⟩ : ∃ w21, w21 = w20.alloc (.cells #[.int .u8 2, .int .u8 1, .int .u8 3] 5) := ⟨_, rfl⟩
  have hbw21 : Below w20.heap.size w20 w21 := by rw [hw21]; exact (Below.refl _ w20).alloc (Nat.le_refl _) _
  have hsw21 : w21.heap.size = w20.heap.size + 1 := by rw [hw21]; simp
  have hr21 : RdT w21 (.slice (some ⟨w20.heap.size, 0, none⟩) 3 3) [2, 1, 3] := by rw [hw21]; exact RdT.blk (heap_alloc_new w20 _) (Rd.lit w20 5 [2, 1, 3] [.int .u8 2, .int .u8 1, .int .u8 3] _ 3 rfl rfl rfl (by omega))
  obtain ⟨w22, hw22⟩ : ∃ w22, w22 = w21.alloc (.cells #[.slice (some ⟨w19.heap.size, 0, none⟩) 3 3, .slice (some ⟨w20.heap.size, 0, none⟩) 3 3] 22) := ⟨_, rfl⟩
  have hbw22 : Below w21.heap.size w21 w22 := by rw [hw22]; exact (Below.refl _ w21).alloc (Nat.le_refl _) _
  have hsw22 : w22.heap.size = w21.heap.size + 1 := by rw [hw22]; simp
  have hX22 : XS w22 w21.heap.size (.slice (some ⟨w21.heap.size, 0, none⟩) 2 2) [(.slice (some ⟨w19.heap.size, 0, none⟩) 3 3, [2, 1, 5]), (.slice (some ⟨w20.heap.size, 0, none⟩) 3 3, [2, 1, 3])] := by
    rw [hw22]
    refine XS.lit w21 [(.slice (some ⟨w19.heap.size, 0, none⟩) 3 3, [2, 1, 5]), (.slice (some ⟨w20.heap.size, 0, none⟩) 3 3, [2, 1, 3])] _ _ 2 rfl rfl rfl (by omega) (fun p hp => ?_)
    simp only [List.mem_cons, List.not_mem_nil, or_false] at hp
    rcases hp with rfl | rfl
    · exact hr20.below hbw21
    · exact hr21
  have hown : OwnB w19 w18.heap.size w19.heap.size (.slice (some ⟨w18.heap.size, 0, none⟩) 1 1) [0] := by
    rw [hw19]
    exact OwnB.of (n := 1) (World.ownsRow_lit (e := 5) (base := w18.heap.size) (size := 1) w18 #[.int .u8 0] 1 (Nat.le_refl _) (by simp [maxLen]) rfl)
  obtain ⟨Ax2, cx2, ex2, hrdl2⟩ := hX22.rdl
  injection ex2 with ex21 ex22 ex23
  subst ex21 ex23
  clear ex22
  have hb1922 : Below w19.heap.size w19 w22 := (hbw20.trans (hbw21.mono hbw20.size)).trans (hbw22.mono (by have := hbw20.size; have := hbw21.size; omega))
  have hb1822 : Below w18.heap.size w18 w22 := hbw19.trans (hb1922.mono hbw19.size)
  rw [show w21.heap.size = w18.heap.size + 1 + 1 + 1 by omega] at hrdl2
  rw [show w19.heap.size = w18.heap.size + 1 by omega] at hw22 hrdl2
  rw [show w20.heap.size = w18.heap.size + 1 + 1 by omega] at hw22 hrdl2
  have HR22 := Lib.hid (And.intro hrdl2 (And.intro (hown.below hb1922 (Nat.le_refl _)) hb1822))
  have hs19 : w19.heap.size = w18.heap.size + 1 := hsw19
  have hs1922 : w19.heap.size ≤ w22.heap.size := hb1922.size
  clear hrdl2 hown hX22 hr19 hr20 hr21 hb1922 hb1822 hbw19 hbw20 hbw21 hbw22 hsw19 hsw20 hsw21 hsw22
  go_wp2_with fail
  rw [← hw19, ← hw20, ← hw21, ← hw22]
  clear hw19 hw20 hw21 hw22
  refine (refSeq_any _ _ _ _ w22 HR22.out.1 (by simp) (by simp [cat])).mono ?_
  rintro en w23 ⟨A23, n23, c23, rfl, ho23, hb23⟩
  dsimp only
  have ho23 : OwnB w23 w22.heap.size w23.heap.size (.slice A23 n23 c23) (Ref.seq [[2, 1, 5], [2, 1, 3]]) := ho23
  have hl23 : (Ref.seq [[2, 1, 5], [2, 1, 3]]).length = 8 := by decide +kernel
  have hn23 := ownB_len ho23
  have hb1823 := HR22.out.2.2.trans (hb23.mono HR22.out.2.2.size)
  have ho0 : OwnB w23 w18.heap.size w19.heap.size (.slice (some ⟨w18.heap.size, 0, none⟩) 1 1) [0] := HR22.out.2.1.below hb23 hs1922
  have HR23 := Lib.hid (And.intro (ho23.mono (Nat.le_refl _) (Nat.le_refl _)).rdx (And.intro ho0 hb1823))
  have hs23 := hb1823.size
  clear ho23 ho0 hb1823 hb23 HR22
  go_wp2_with (first
    | (at_builtin; refine wpList_app rfl (.tmp 63) (.tmp 67) rfl w18.heap.size w19.heap.size _ _ rfl HR23.out.2.1 (by omega) _ _ _ _ (Ref.seq [[2, 1, 5], [2, 1, 3]]) rfl HR23.out.1.rds (by simp; omega) ?_; intro v24 w24 ho24 hg24 hor24 hb24; obtain ⟨B24, m24, d24, rfl, hr24⟩ := ho24.rd)
    | fail)
  have hl24 := ownB_len ho24
  refine (refWrite_lit 3 3 rfl B24 m24 d24 _ w24 hr24 (by rw [← hl24]; simp; omega)).mono ?_
  rintro en w25 ⟨A25, n25, c25, rfl, ho25, hb25⟩
  dsimp only
  have hb1825 : Below w18.heap.size w18 w25 := (HR23.out.2.2.trans hb24).trans (hb25.mono (by have := (HR23.out.2.2.trans hb24).size; omega))
  have hl25 := write_lt 3 ([0] ++ Ref.seq [[2, 1, 5], [2, 1, 3]]) 9 (by simp; omega) (by omega)
  obtain ⟨w26, hw26⟩ : ∃ w26, w26 = w25.alloc (.cells #[.slice A6 n6 c6, .slice A25 n25 c25] 22) := ⟨_, rfl⟩
  have hbw26 : Below w25.heap.size w25 w26 := by rw [hw26]; exact (Below.refl _ w25).alloc (Nat.le_refl _) _
  have hsw26 : w26.heap.size = w25.heap.size + 1 := by rw [hw26]; simp
  have hX26 : XS w26 w25.heap.size (.slice (some ⟨w25.heap.size, 0, none⟩) 2 2) [(.slice A6 n6 c6, al), (.slice A25 n25 c25, Der.write 3 ([0] ++ Ref.seq [[2, 1, 5], [2, 1, 3]]))] := by
    rw [hw26]
    refine XS.lit w25 [(.slice A6 n6 c6, al), (.slice A25 n25 c25, Der.write 3 ([0] ++ Ref.seq [[2, 1, 5], [2, 1, 3]]))] _ _ 2 rfl rfl rfl (by omega) (fun p hp => ?_)
    simp only [List.mem_cons, List.not_mem_nil, or_false] at hp
    rcases hp with rfl | rfl
    · exact H18.out.2.2.2.2.1.below hb1825
    · exact RdT.own (ho25.mono (Nat.le_refl _) (Nat.le_refl _))
  obtain ⟨Ax6, cx6, ex6, hrdl6⟩ := hX26.rdl
  injection ex6 with ex61 ex62 ex63
  subst ex61 ex63
  clear ex62
  have hb1826 := hb1825.trans (hbw26.mono hb1825.size)
  have HR26 := Lib.hid (And.intro hrdl6 (And.intro hb1826 hl25))
  clear hrdl6 hX26 ho24 hg24 hor24 hb24 hr24 hl24 ho25 hb25 hb1825 hb1826 hbw26 hsw26 HR23 hs23 hl23 hn23 hl25
  go_wp2_with fail
  rw [← hw26]
  clear hw26
  refine (refSeq_any _ _ _ _ w26 HR26.out.1 (by simp) (by unfold cat; have := HR26.out.2.2; simp only [List.map_cons, List.map_nil, List.flatten_cons, List.flatten_nil, List.append_nil, List.length_append] at this ⊢; omega)).mono ?_
  rintro en w27 ⟨A27, n27, c27, rfl, ho27, hb27⟩
  dsimp only
  have ho27 : OwnB w27 w26.heap.size w27.heap.size (.slice A27 n27 c27) (Ref.seq [al, Der.write 3 ([0] ++ Ref.seq [[2, 1, 5], [2, 1, 3]])]) := ho27
  have hG := HR26.out.2.1.trans (hb27.mono HR26.out.2.1.size)
  have H27 := Lib.hid (And.intro (H18.out.1.below hG H18.out.1.lt) (And.intro (H18.out.2.1.up hG) (And.intro (H18.out.2.2.1.trans (hG.mono H18.out.2.2.1.size)) (And.intro (H18.out.2.2.2.1.below hG) (And.intro (H18.out.2.2.2.2.1.below hG) (H18.out.2.2.2.2.2.below hG))))))
  obtain ⟨ky, hky⟩ : ∃ ky, ky = Ref.seq [al, Der.write 3 ([0] ++ Ref.seq [[2, 1, 5], [2, 1, 3]])] := ⟨_, rfl⟩
  rw [← hky] at ho27
  have hkl : ky.length ≤ 1000 := by
    rw [hky]
    refine Nat.le_trans (write_lt 48 _ 400 ?_ (by omega)) (by omega)
    have := HR26.out.2.2
    simp only [List.flatten_cons, List.flatten_nil, List.append_nil, List.length_append] at this ⊢
    omega
  have hrk : RdT w27 (.slice A27 n27 c27) ky := RdT.own (ho27.mono (Nat.le_refl _) (Nat.le_refl _))
  have hP3 := hPE.out.2.2
  rw [← hky] at hP3
  have HPT := Lib.hid (And.intro (show Calls Try.prog 34 #[k.val (.slice A0 n0 c0) (.slice A1 n1 c1) (.slice A2 n2 c2), .int .i64 6, .slice A27 n27 c27] w27 (RetOwn (Ref.wr (Ref.seq ((k.els.map (·.2.2)).set 6 ky)) (k.sig.take 100)) w27) from put_any k A0 A1 A2 n0 c0 n1 c1 n2 c2 w27 H27.out.2.1 6 (by omega) A27 n27 c27 ky hrk (by omega)) hP3)
  clear hky hkl hrk ho27 hG hb27 hP3 HR26 H18 hPE hL7
  go_upto_region 12 with (first
    | ((with_reducible refine at_load_case ?_); refine wpList_load_case rfl _ rfl w.heap.size k (.slice A0 n0 c0) (.slice A1 n1 c1) (.slice A2 n2 c2) rfl H27.out.1 ?_)
    | (go_at_call 34; refine HPT.out.1.mono ?_; rintro en w28 ⟨A28, n28, c28, rfl, ho28, hb28⟩)
    | (go_at_call 16; refine (parse_pc A28 n28 c28 _ w28 (ho28.mono (Nat.le_refl _) (Nat.le_refl _)).rdx).mono ?_; rintro en w29 ⟨hb29, C3, rfl, hPc3⟩; have hone := hPc3.one)
    | ((with_reducible refine at_store_cert ?_); refine wpList_store_cert rfl _ _ rfl w29.heap.size CV.zero C3 rfl rfl (Blk.new w29 _ _) hone ?_; intro w30 hB30 hg30)
    | fail)
  have hg3 : Below w29.heap.size w29 w30 := below_grow ((Below.refl _ w29).alloc (Nat.le_refl _) _) hg30 (Nat.le_refl _) (Nat.le_refl _)
  have hG : Below w27.heap.size w27 w30 := (hb28.trans (hb29.mono hb28.size)).trans (hg3.mono (by have := hb28.size; have := hb29.size; omega))
  have hPc := hPc3.rn hg3
  have H30 := Lib.hid (And.intro (H27.out.1.below hG H27.out.1.lt) (And.intro (H27.out.2.1.up hG) (And.intro (H27.out.2.2.1.trans (hG.mono H27.out.2.2.1.size)) (And.intro (H27.out.2.2.2.1.below hG) (And.intro (H27.out.2.2.2.2.1.below hG) (H27.out.2.2.2.2.2.below hG))))))
  obtain ⟨g29, hg29⟩ : ∃ g, g = w29.heap.size := ⟨_, rfl⟩
  rw [← hg29] at hB30 ⊢
  obtain ⟨Ab2, nb2, cb2, eb2, hrb2, _⟩ := H30.out.2.2.2.1
  injection eb2 with eb21 eb22 eb23
  subst eb21 eb22 eb23
  have ks1 := run_string hrb2 9 Try.underlying9
  have hlit := Rd.lit w30 5 X.keyOid [.int .u8 42, .int .u8 134, .int .u8 72, .int .u8 134, .int .u8 247, .int .u8 13, .int .u8 1, .int .u8 1, .int .u8 1] _ 9 rfl rfl rfl (by omega)
  have ks2 := run_string hlit 9 Try.underlying9
  obtain ⟨w31, hw31⟩ : ∃ w31, w31 = w30.alloc (.cells #[.int .u8 42, .int .u8 134, .int .u8 72, .int .u8 134, .int .u8 247, .int .u8 13, .int .u8 1, .int .u8 1, .int .u8 1] 5) := ⟨_, rfl⟩
  have hb3031 : Below w30.heap.size w30 w31 := by rw [hw31]; exact (Below.refl _ w30).alloc (Nat.le_refl _) _
  have hb31 := H30.out.2.2.1.trans (hb3031.mono H30.out.2.2.1.size)
  have hB31 := hB30.below hb3031 hB30.lt
  have H31 := Lib.hid (And.intro hb31 (And.intro hB31 (And.intro (hPc.rn hb3031) HPT.out.2)))
  clear hg29 hg3 hG hone hPc3 hPc hB30 hg30 hb28 hb29 ho28 HPT H27 H30 hlit hrb2 hb3031 hb31 hB31
  go_upto_region 13 with fail
  rw [← hw31]
  clear hw31 ks1 ks2
  rcases H31.out.2.2.2 with ⟨hk, s, hs, hn5, he3⟩ | ⟨hk, hs⟩
  · have hPq := H31.out.2.2.1
    rw [hs] at hPq ⊢
    obtain ⟨_, _, hee, _, hci⟩ := hPq.out
    obtain ⟨An, nn, cn, en5, hrn, _⟩ := hci.n
    rw [hn5] at hrn
    have hn1 := hrn.len
    obtain rfl : nn = 1 := by simpa using hn1.symm
    rw [he3] at hee
    have k17 : w31.cell? ⟨g29, 17, none⟩ = some (.slice An 1 cn) := (H31.out.2.1.at_ 17).trans (by rw [← en5]; rfl)
    have k18 : w31.cell? ⟨g29, 18, none⟩ = some (.int .u64 3) := (H31.out.2.1.at_ 18).trans (by
      have : C3.cells[18]? = some (.int .u64 (C3.e : Int)) := rfl
      rw [this, hee]; rfl)
    have HW := Lib.hid H31.out.1
    have hkd : (b == X.keyOid) = true := by rw [beq_iff_eq]; exact hk
    rw [hkd]
    have e0 : (((Cert.Ans.yes s (k.sig.take 100)).err : Nat) : Int) = 0 := rfl
    rw [e0]
    clear hk hs hn5 he3 hPq hee hci en5 hrn hn1 H31 hkd
    have her := hER.out
    clear hER
    cases sg
    · rw [if_neg (by simp)] at her
      subst her
      go_wp2_with fail
      refine (works12_any _).mono ?_
      rintro e wz ⟨rfl, hbz⟩
      go_wp2
      go_ret
      exact ⟨rfl, HW.out.trans (hbz.mono HW.out.size)⟩
    · rw [if_pos rfl] at her
      subst her
      go_wp2_with fail
      refine (works12_any _).mono ?_
      rintro e wz ⟨rfl, hbz⟩
      go_wp2
      go_ret
      exact ⟨rfl, HW.out.trans (hbz.mono HW.out.size)⟩
  · rw [hs]
    have HW := Lib.hid H31.out.1
    have hkd : (b == X.keyOid) = false := by rw [beq_eq_false_iff_ne]; exact hk
    rw [hkd]
    have e0 : (((Cert.Ans.no 9).err : Nat) : Int) = 9 := rfl
    rw [e0]
    clear hk hs H31 hkd
    have her := hER.out
    clear hER
    cases sg
    · rw [if_neg (by simp)] at her
      subst her
      go_wp2_with fail
      refine (works12_any _).mono ?_
      rintro e wz ⟨rfl, hbz⟩
      go_wp2
      go_ret
      exact ⟨rfl, HW.out.trans (hbz.mono HW.out.size)⟩
    · rw [if_pos rfl] at her
      subst her
      go_wp2_with fail
      refine (works12_any _).mono ?_
      rintro e wz ⟨rfl, hbz⟩
      go_wp2
      go_ret
      exact ⟨rfl, HW.out.trans (hbz.mono HW.out.size)⟩
theorem methods_zero (k : Kase) (A0 A1 A2 : Option Addr) (n0 c0 n1 c1 n2 c2 : Nat) (A3 : Option Addr) (n3 c3 : Nat) (zs : List Nat) (w : World) (hk : k.come w A0 A1 A2 n0 c0 n1 c1 n2 c2)
    (h3 : RdU w w.heap.size A3 n3 c3 zs) (hc : (Der.putOid zs).length = 0) :
    Calls Try.prog 11 #[k.val (.slice A0 n0 c0) (.slice A1 n1 c1) (.slice A2 n2 c2), .slice A3 n3 c3] w (LawPost w) := by
  obtain ⟨w0, hw0, hKB0⟩ : ∃ w0, w0 = w.alloc (.cells (k.row (.slice A0 n0 c0) (.slice A1 n1 c1) (.slice A2 n2 c2)) 42) ∧ Blk w0 w.heap.size 42 (k.row (.slice A0 n0 c0) (.slice A1 n1 c1) (.slice A2 n2 c2)) := ⟨_, rfl, Blk.new w _ _⟩
  have hb0 : Below w.heap.size w w0 := by rw [hw0]; exact (Below.refl _ w).alloc (Nat.le_refl _) _
  have HK := Lib.hid (And.intro hKB0 (And.intro (h3.up hb0) (And.intro (hk.up hb0) hb0)))
  clear hk h3 hKB0 hb0
  obtain ⟨KV, hKV⟩ : ∃ KV, KV = k.val (.slice A0 n0 c0) (.slice A1 n1 c1) (.slice A2 n2 c2) := ⟨_, rfl⟩
  have hKV2 : KV = Value.agg (k.row (.slice A0 n0 c0) (.slice A1 n1 c1) (.slice A2 n2 c2)) := hKV
  rw [← hKV]
  clear hKV
  subst hKV2
  go_enter Try.func11, Try.ntmps11
  go_upto_region 1 with fail
  rw [← hw0]
  clear hw0
  go_wp2_with fail
  refine (refOid_any A3 n3 c3 zs w0 HK.out.2.1).mono ?_
  rintro en w1 ⟨B, m, d, rfl, ho1, hb1⟩
  have hl1 := ownB_len ho1
  have hS := oidOf_purp zs HK.out.2.1.small
  have H1 := Lib.hid (And.intro (HK.out.1.below hb1 HK.out.1.lt) (And.intro (HK.out.2.2.1.up hb1) (HK.out.2.2.2.trans (hb1.mono HK.out.2.2.2.size))))
  have hm : m = 0 := by omega
  subst hm
  have hX : X.oidOf zs = [42, 3] := by unfold X.oidOf; rw [if_pos (by omega)]
  rw [hX] at hS
  clear hc hX
  go_upto_region 4 with fail
  have hr2 := Rd.lit w1 5 [42, 3] [.int .u8 42, .int .u8 3] _ 2 rfl rfl rfl (by omega)
  obtain ⟨w2, hw2⟩ : ∃ w2, w2 = w1.alloc (.cells #[.int .u8 42, .int .u8 3] 5) := ⟨_, rfl⟩
  have hb12 : Below w1.heap.size w1 w2 := by rw [hw2]; exact (Below.refl _ w1).alloc (Nat.le_refl _) _
  have hrt2 : RdT w2 (.slice (some ⟨w1.heap.size, 0, none⟩) 2 2) [42, 3] := by rw [hw2]; exact RdT.blk (heap_alloc_new w1 _) hr2
  rw [← hw2]
  have H2 := Lib.hid (And.intro (H1.out.1.below hb12 H1.out.1.lt) (And.intro (H1.out.2.1.up hb12) (And.intro (H1.out.2.2.trans (hb12.mono H1.out.2.2.size)) (And.intro hrt2 hS))))
  clear H1 HK ho1 hb1 hS hl1 hw2 hr2 hb12 hrt2
  have hbl : [42, 3].length ≤ 300 := H2.out.2.2.2.2.1
  obtain ⟨Ab, nb, cb, eb, hrb, _⟩ := H2.out.2.2.2.1
  injection eb with eb1 eb2 eb3
  subst eb1 eb2 eb3
  go_wp2_with fail
  refine (refWrite_lit 6 6 rfl (some ⟨w1.heap.size, 0, none⟩) 2 2 [42, 3] w2 hrb (by have := hrb.len; omega)).mono ?_
  rintro en w3 ⟨A3, n3, c3, rfl, ho3, hb3⟩
  dsimp only
  have hw3 := write_lt 6 [42, 3] 300 hbl (by omega)
  obtain ⟨w4, hw4⟩ : ∃ w4, w4 = w3.alloc (.cells #[.int .u8 5, .int .u8 0] 5) := ⟨_, rfl⟩
  have hbw4 : Below w3.heap.size w3 w4 := by rw [hw4]; exact (Below.refl _ w3).alloc (Nat.le_refl _) _
  have hsw4 : w4.heap.size = w3.heap.size + 1 := by rw [hw4]; simp
  have hr4 : RdT w4 (.slice (some ⟨w3.heap.size, 0, none⟩) 2 2) [5, 0] := by rw [hw4]; exact RdT.blk (heap_alloc_new w3 _) (Rd.lit w3 5 [5, 0] [.int .u8 5, .int .u8 0] _ 2 rfl rfl rfl (by omega))
  obtain ⟨w5, hw5⟩ : ∃ w5, w5 = w4.alloc (.cells #[.slice A3 n3 c3, .slice (some ⟨w3.heap.size, 0, none⟩) 2 2] 22) := ⟨_, rfl⟩
  have hbw5 : Below w4.heap.size w4 w5 := by rw [hw5]; exact (Below.refl _ w4).alloc (Nat.le_refl _) _
  have hsw5 : w5.heap.size = w4.heap.size + 1 := by rw [hw5]; simp
  have hX5 : XS w5 w4.heap.size (.slice (some ⟨w4.heap.size, 0, none⟩) 2 2) [(.slice A3 n3 c3, Der.write 6 [42, 3]), (.slice (some ⟨w3.heap.size, 0, none⟩) 2 2, [5, 0])] := by
    rw [hw5]
    refine XS.lit w4 [(.slice A3 n3 c3, Der.write 6 [42, 3]), (.slice (some ⟨w3.heap.size, 0, none⟩) 2 2, [5, 0])] _ _ 2 rfl rfl rfl (by omega) (fun p hp => ?_)
    simp only [List.mem_cons, List.not_mem_nil, or_false] at hp
    rcases hp with rfl | rfl
    · exact (RdT.own ho3).below hbw4
    · exact hr4
  rw [hsw4] at hX5
  obtain ⟨Ax, cx, ex, hrdl⟩ := hX5.rdl
  injection ex with ex1 ex2 ex3
  subst ex1 ex3
  clear ex2
  have hbx : Below w2.heap.size w2 w5 := (hb3.trans (hbw4.mono hb3.size)).trans (hbw5.mono (by have := hb3.size; omega))
  have hHS := Lib.hid (And.intro hrdl (And.intro hbx hw3))
  clear hrdl hbx hX5 hr4 ho3 hrb hb3 hbw4 hbw5 hw3
  go_wp2_with fail
  rw [← hw4, ← hw5]
  clear hw4 hw5 hsw4 hsw5
  refine (refSeq_any _ _ _ _ w5 hHS.out.1 (by simp) (by unfold cat; simp only [List.map_cons, List.map_nil, List.flatten_cons, List.flatten_nil, List.append_nil, List.length_append]; have := hHS.out.2.2; simp; omega)).mono ?_
  rintro en w6 ⟨A6, n6, c6, rfl, ho6, hb6⟩
  dsimp only
  have hG := hHS.out.2.1.trans (hb6.mono hHS.out.2.1.size)
  have hra : RdT w6 (.slice A6 n6 c6) (Ref.seq [Der.write 6 [42, 3], [5, 0]]) := RdT.own (ho6.mono (Nat.le_refl _) (Nat.le_refl _))
  have hP1 := put2_parse k H2.out.2.1.path H2.out.2.2.2.2
  have hP2 := outer_parse k H2.out.2.1.path H2.out.2.2.2.2
  have hP3 := put6_parse k H2.out.2.1.path H2.out.2.2.2.2
  have hP4 := signs_iff (b := [42, 3]) hbl
  unfold X.kind at hP3
  rw [algo_raw] at hP4
  have hall := (algo_len [42, 3] hbl).2
  rw [algo_raw] at hall
  obtain ⟨al, hal⟩ : ∃ al, Ref.seq [Der.write 6 [42, 3], [5, 0]] = al := ⟨_, rfl⟩
  rw [hal] at hP1 hP2 hP3 hP4 hra hall
  have hP := Lib.hid (And.intro hP1 (And.intro hP2 (And.intro hP3 hP4)))
  have hbC : Blk w6 w.heap.size 42 (k.row (.slice A0 n0 c0) (.slice A1 n1 c1) (.slice A2 n2 c2)) := H2.out.1.below hG H2.out.1.lt
  have H6 := Lib.hid (And.intro hbC (And.intro (H2.out.2.1.up hG) (And.intro (H2.out.2.2.1.trans (hG.mono H2.out.2.2.1.size)) (And.intro (H2.out.2.2.2.1.below hG) hra))))
  clear hP1 hP2 hP3 hP4 hal hra hG ho6 hb6 hHS H2 hbC
  go_wp2_with (first
    | ((with_reducible refine at_load_case ?_); refine wpList_load_case rfl _ rfl w.heap.size k (.slice A0 n0 c0) (.slice A1 n1 c1) (.slice A2 n2 c2) rfl H6.out.1 ?_)
    | fail)
  refine (elements_any k A0 A1 A2 n0 c0 n1 c1 n2 c2 w6 H6.out.2.1).mono ?_
  rintro en w7 ⟨A7, c7, l7, rfl, hX7, hl7, hb7⟩
  have H7a := Lib.hid (And.intro (H6.out.1.below hb7 H6.out.1.lt) (And.intro (H6.out.2.1.up hb7) (And.intro (H6.out.2.2.1.trans (hb7.mono H6.out.2.2.1.size)) (And.intro (H6.out.2.2.2.1.below hb7) (H6.out.2.2.2.2.below hb7)))))
  have H7 := Lib.hid (And.intro H7a.out.1 (And.intro H7a.out.2.1 (And.intro H7a.out.2.2.1 (And.intro H7a.out.2.2.2.1 (And.intro H7a.out.2.2.2.2 hX7)))))
  have hL7 := Lib.hid hl7
  obtain ⟨Ae, ce, ee, hrd7⟩ := hX7.rdl
  injection ee with ee1 ee2 ee3
  subst ee1 ee3
  rw [← ee2] at hrd7
  clear ee2
  obtain ⟨be, oe, rfl, hbe⟩ := hrd7.plain (by omega)
  obtain ⟨A8, n8, c8, x8, hx8, k8, hr8⟩ := hrd7.part (k := 2) (by omega)
  have hx8s : x8 = Ref.signAlg := by
    have h1 := congrArg (fun z => z[2]?) hl7
    simp only [List.getElem?_map, hx8, Option.map_some] at h1
    have h2 : (k.els[2]?).map (·.2.2) = some Ref.signAlg := by rw [← alg_raw]; rfl
    rw [h2] at h1
    injection h1
  rw [hx8s] at hr8
  clear hx8s hx8
  obtain ⟨Aq, nq6, cq, eq6, hrA, _⟩ := H7.out.2.2.2.2.1
  injection eq6 with eq1 eq2 eq3
  subst eq1 eq2 eq3
  have ks1 : ∀ z, (convert 22 9 (.slice A6 n6 c6)).run Try.prog (w7.drewN z) = .ok (.string ⟨al.toArray⟩) (w7.drewN z) := fun z => run_string (hrA.drewN z) 9 Try.underlying9
  have ks2 : ∀ z, (convert 22 9 (.slice A8 n8 c8)).run Try.prog (w7.drewN z) = .ok (.string ⟨Ref.signAlg.toArray⟩) (w7.drewN z) := fun z => run_string (hr8.drewN z) 9 Try.underlying9
  clear hrA hr8 hrd7 hX7 hl7 hb7 H6 H7a
  go_upto_region 6 with fail
  go_quiet (fail)
  obtain ⟨w8, hw8⟩ : ∃ w8, w8 = w7.drewN nq := ⟨_, rfl⟩
  have hb78 : Below w7.heap.size w7 w8 := by rw [hw8]; exact below_drewN (Below.refl _ _) nq
  rw [← hw8, hP.out.2.2.2]
  clear hw8 ks1 ks2 k8
  obtain ⟨sg, hsg⟩ : ∃ sg, ([42, 3] == X.signOid) = sg := ⟨_, rfl⟩
  rw [hsg]
  have hsd : [42, 3] = X.signOid ↔ sg = true := by rw [← hsg, beq_iff_eq]
  have he2 : ((Cert.parse (Ref.wr (Ref.seq ((k.els.map (·.2.2)).set 2 al)) (k.sig.take 100))).err : Int) = if sg then 0 else 9 := by
    rw [hP.out.1]
    by_cases h : [42, 3] = X.signOid
    · rw [if_pos h, if_pos (hsd.1 h)]; rfl
    · rw [if_neg h, if_neg (fun e => h (hsd.2 e))]; rfl
  have heo : ((Cert.parse (Ref.seq [Ref.seq (k.els.map (·.2.2)), al, Der.write 3 [0]])).err : Int) = if sg then 0 else 9 := by
    obtain ⟨so, hso⟩ := hP.out.2.1
    rw [hso]
    by_cases h : [42, 3] = X.signOid
    · rw [if_pos h, if_pos (hsd.1 h)]; rfl
    · rw [if_neg h, if_neg (fun e => h (hsd.2 e))]; rfl
  obtain ⟨er, her⟩ : ∃ er : Int, er = if sg then 0 else 9 := ⟨_, rfl⟩
  rw [← her] at he2 heo
  have hPE := Lib.hid (And.intro he2 (And.intro heo hP.out.2.2.1))
  have hER := Lib.hid her
  clear he2 heo her hsd hsg hP
  have H8 := Lib.hid (And.intro (H7.out.1.below hb78 H7.out.1.lt) (And.intro (H7.out.2.1.up hb78) (And.intro (H7.out.2.2.1.trans (hb78.mono H7.out.2.2.1.size)) (And.intro (H7.out.2.2.2.1.below hb78) (And.intro (H7.out.2.2.2.2.1.below hb78) (H7.out.2.2.2.2.2.below hb78))))))
  clear hb78 H7
  have HPT := Lib.hid (show Calls Try.prog 34 #[k.val (.slice A0 n0 c0) (.slice A1 n1 c1) (.slice A2 n2 c2), .int .i64 2, .slice A6 n6 c6] w8 (RetOwn (Ref.wr (Ref.seq ((k.els.map (·.2.2)).set 2 al)) (k.sig.take 100)) w8) from put_any k A0 A1 A2 n0 c0 n1 c1 n2 c2 w8 H8.out.2.1 2 (by omega) A6 n6 c6 al H8.out.2.2.2.2.1 (by omega))
  go_upto_region 8 with (first
    | ((with_reducible refine at_load_case ?_); refine wpList_load_case rfl _ rfl w.heap.size k (.slice A0 n0 c0) (.slice A1 n1 c1) (.slice A2 n2 c2) rfl H8.out.1 ?_)
    | (go_at_call 34; refine HPT.out.mono ?_; rintro en w9 ⟨A9, n9, c9, rfl, ho9, hb9⟩)
    | (go_at_call 16; refine (parse_pc A9 n9 c9 _ w9 (ho9.mono (Nat.le_refl _) (Nat.le_refl _)).rdx).mono ?_; rintro en w10 ⟨hb10, C1, rfl, hPc1⟩; have hone := hPc1.one)
    | ((with_reducible refine at_store_cert ?_); refine wpList_store_cert rfl _ _ rfl w10.heap.size CV.zero C1 rfl rfl (Blk.new w10 _ _) hone ?_; intro w11 hB11 hg11)
    | fail)
  have hg3 : Below w10.heap.size w10 w11 := below_grow ((Below.refl _ w10).alloc (Nat.le_refl _) _) hg11 (Nat.le_refl _) (Nat.le_refl _)
  have hG : Below w8.heap.size w8 w11 := (hb9.trans (hb10.mono hb9.size)).trans (hg3.mono (by have := hb9.size; have := hb10.size; omega))
  rw [hPE.out.1]
  have H11 := Lib.hid (And.intro (H8.out.1.below hG H8.out.1.lt) (And.intro (H8.out.2.1.up hG) (And.intro (H8.out.2.2.1.trans (hG.mono H8.out.2.2.1.size)) (And.intro (H8.out.2.2.2.1.below hG) (And.intro (H8.out.2.2.2.2.1.below hG) (H8.out.2.2.2.2.2.below hG))))))
  obtain ⟨g9, hg9⟩ : ∃ g, g = w10.heap.size := ⟨_, rfl⟩
  rw [← hg9]
  clear hg9 hg3 hG hone hPc1 hB11 hg11 hb9 hb10 ho9 HPT H8
  obtain ⟨Ay, cy, ey, hrdy⟩ := H11.out.2.2.2.2.2.rdl
  injection ey with y1 y2 y3
  subst y1 y3
  rw [← y2] at hrdy
  have HRY := Lib.hid (And.intro hrdy y2)
  clear hrdy y2
  go_wp2_with fail
  refine (refSeq_any _ 7 _ l7 w11 HRY.out.1 (by omega) (by unfold cat; rw [hL7.out]; have := els_few k; unfold raws at this; omega)).mono ?_
  rintro en w12 ⟨A12, n12, c12, rfl, ho12, hb12⟩
  dsimp only
  rw [hL7.out] at ho12
  have hl12 : (Ref.seq (k.els.map (·.2.2))).length ≤ 1747 := write_lt 48 (raws k.els) 1741 (els_few k) (by omega)
  obtain ⟨w13, hw13⟩ : ∃ w13, w13 = w12.alloc (.cells #[.int .u8 0] 5) := ⟨_, rfl⟩
  have hbw13 : Below w12.heap.size w12 w13 := by rw [hw13]; exact (Below.refl _ w12).alloc (Nat.le_refl _) _
  have hsw13 : w13.heap.size = w12.heap.size + 1 := by rw [hw13]; simp
  have hr13 : RdT w13 (.slice (some ⟨w12.heap.size, 0, none⟩) 1 1) [0] := by rw [hw13]; exact RdT.blk (heap_alloc_new w12 _) (Rd.lit w12 5 [0] [.int .u8 0] _ 1 rfl rfl rfl (by omega))
  have hrd13 : Rd w13 w13.heap.size (some ⟨w12.heap.size, 0, none⟩) 1 1 [0] := by rw [hw13]; exact Rd.lit w12 5 [0] [.int .u8 0] _ 1 rfl rfl rfl (by omega)
  have HR13 := Lib.hid (And.intro hrd13 (And.intro (RdT.own (ho12.mono (Nat.le_refl _) (Nat.le_refl _))) (And.intro hb12 (And.intro hbw13 hl12))))
  clear hrd13 hr13 ho12 hb12 hbw13 hsw13 hl12
  go_wp2_with fail
  rw [← hw13]
  clear hw13
  refine (refWrite_lit 3 3 rfl (some ⟨w12.heap.size, 0, none⟩) 1 1 [0] w13 HR13.out.1 (by omega)).mono ?_
  rintro en w14 ⟨A14, n14, c14, rfl, ho14, hb14⟩
  dsimp only
  have hb1214 : Below w12.heap.size w12 w14 := HR13.out.2.2.2.1.trans (hb14.mono HR13.out.2.2.2.1.size)
  have hb1114 : Below w11.heap.size w11 w14 := HR13.out.2.2.1.trans (hb1214.mono HR13.out.2.2.1.size)
  obtain ⟨w15, hw15⟩ : ∃ w15, w15 = w14.alloc (.cells #[.slice A12 n12 c12, .slice A6 n6 c6, .slice A14 n14 c14] 22) := ⟨_, rfl⟩
  have hbw15 : Below w14.heap.size w14 w15 := by rw [hw15]; exact (Below.refl _ w14).alloc (Nat.le_refl _) _
  have hsw15 : w15.heap.size = w14.heap.size + 1 := by rw [hw15]; simp
  have hX15 : XS w15 w14.heap.size (.slice (some ⟨w14.heap.size, 0, none⟩) 3 3) [(.slice A12 n12 c12, Ref.seq (k.els.map (·.2.2))), (.slice A6 n6 c6, al), (.slice A14 n14 c14, Der.write 3 [0])] := by
    rw [hw15]
    refine XS.lit w14 [(.slice A12 n12 c12, Ref.seq (k.els.map (·.2.2))), (.slice A6 n6 c6, al), (.slice A14 n14 c14, Der.write 3 [0])] _ _ 3 rfl rfl rfl (by omega) (fun p hp => ?_)
    simp only [List.mem_cons, List.not_mem_nil, or_false] at hp
    rcases hp with rfl | rfl | rfl
    · exact HR13.out.2.1.below hb1214
    · exact H11.out.2.2.2.2.1.below hb1114
    · exact RdT.own (ho14.mono (Nat.le_refl _) (Nat.le_refl _))
  obtain ⟨Ax5, cx5, ex5, hrdl5⟩ := hX15.rdl
  injection ex5 with ex51 ex52 ex53
  subst ex51 ex53
  clear ex52
  have hb1115 := hb1114.trans (hbw15.mono hb1114.size)
  have HR15 := Lib.hid (And.intro hrdl5 (And.intro hb1115 HR13.out.2.2.2.2))
  clear hrdl5 hX15 ho14 hb14 hb1214 hb1114 hb1115 hbw15 hsw15 HR13
  go_wp2_with fail
  rw [← hw15]
  clear hw15
  refine (refSeq_any _ _ _ _ w15 HR15.out.1 (by simp) (by unfold cat; have h3 : (Der.write 3 [0]).length ≤ 7 := write_lt 3 [0] 1 (by simp) (by omega); have := HR15.out.2.2; simp only [List.map_cons, List.map_nil, List.flatten_cons, List.flatten_nil, List.append_nil, List.length_append]; omega)).mono ?_
  rintro en w16 ⟨A16, n16, c16, rfl, ho16, hb16⟩
  dsimp only
  have ho16 : OwnB w16 w15.heap.size w16.heap.size (.slice A16 n16 c16) (Ref.seq [Ref.seq (k.els.map (·.2.2)), al, Der.write 3 [0]]) := ho16
  have hb1116 := HR15.out.2.1.trans (hb16.mono HR15.out.2.1.size)
  go_upto_region 10 with (first
    | (go_at_call 16; refine (parse_pc A16 n16 c16 _ w16 (ho16.mono (Nat.le_refl _) (Nat.le_refl _)).rdx).mono ?_; rintro en w17 ⟨hb17, C2, rfl, hPc2⟩; have hone := hPc2.one)
    | ((with_reducible refine at_store_cert ?_); refine wpList_store_cert rfl _ _ rfl w17.heap.size CV.zero C2 rfl rfl (Blk.new w17 _ _) hone ?_; intro w18 hB18 hg18)
    | fail)
  have hg3 : Below w17.heap.size w17 w18 := below_grow ((Below.refl _ w17).alloc (Nat.le_refl _) _) hg18 (Nat.le_refl _) (Nat.le_refl _)
  have hG : Below w11.heap.size w11 w18 := (hb1116.trans (hb17.mono hb1116.size)).trans (hg3.mono (by have := hb1116.size; have := hb17.size; omega))
  rw [hPE.out.2.1]
  have H18 := Lib.hid (And.intro (H11.out.1.below hG H11.out.1.lt) (And.intro (H11.out.2.1.up hG) (And.intro (H11.out.2.2.1.trans (hG.mono H11.out.2.2.1.size)) (And.intro (H11.out.2.2.2.1.below hG) (And.intro (H11.out.2.2.2.2.1.below hG) (H11.out.2.2.2.2.2.below hG))))))
  obtain ⟨g17, hg17⟩ : ∃ g, g = w17.heap.size := ⟨_, rfl⟩
  rw [← hg17]
  clear hg17 hg3 hG hone hPc2 hB18 hg18 hb17 hb1116 hb16 ho16 HR15 HRY H11
  obtain ⟨w19, hw19⟩ : ∃ w19, w19 = w18.alloc (.cells #[.int .u8 0] 5) := ⟨_, rfl⟩
  have hbw19 : Below w18.heap.size w18 w19 := by rw [hw19]; exact (Below.refl _ w18).alloc (Nat.le_refl _) _
  have hsw19 : w19.heap.size = w18.heap.size + 1 := by rw [hw19]; simp
  have hr19 : RdT w19 (.slice (some ⟨w18.heap.size, 0, none⟩) 1 1) [0] := by rw [hw19]; exact RdT.blk (heap_alloc_new w18 _) (Rd.lit w18 5 [0] [.int .u8 0] _ 1 rfl rfl rfl (by omega))
  obtain ⟨w20, hw20⟩ : ∃ w20, w20 = w19.alloc (.cells #[.int .u8 2, .int .u8 1, .int .u8 5] 5) := ⟨_, rfl⟩
  have hbw20 : Below w19.heap.size w19 w20 := by rw [hw20]; exact (Below.refl _ w19).alloc (Nat.le_refl _) _
  have hsw20 : w20.heap.size = w19.heap.size + 1 := by rw [hw20]; simp
  have hr20 : RdT w20 (.slice (some ⟨w19.heap.size, 0, none⟩) 3 3) [2, 1, 5] := by rw [hw20]; exact RdT.blk (heap_alloc_new w19 _) (Rd.lit w19 5 [2, 1, 5] [.int .u8 2, .int .u8 1, .int .u8 5] _ 3 rfl rfl rfl (by omega))
  obtain ⟨w21, hw21⟩ : ∃ w21, w21 = w20.alloc (.cells #[.int .u8 2, .int .u8 1, .int .u8 3] 5) := ⟨_, rfl⟩
  have hbw21 : Below w20.heap.size w20 w21 := by rw [hw21]; exact (Below.refl _ w20).alloc (Nat.le_refl _) _
  have hsw21 : w21.heap.size = w20.heap.size + 1 := by rw [hw21]; simp
  have hr21 : RdT w21 (.slice (some ⟨w20.heap.size, 0, none⟩) 3 3) [2, 1, 3] := by rw [hw21]; exact RdT.blk (heap_alloc_new w20 _) (Rd.lit w20 5 [2, 1, 3] [.int .u8 2, .int .u8 1, .int .u8 3] _ 3 rfl rfl rfl (by omega))
  obtain ⟨w22, hw22⟩ : ∃ w22, w22 = w21.alloc (.cells #[.slice (some ⟨w19.heap.size, 0, none⟩) 3 3, .slice (some ⟨w20.heap.size, 0, none⟩) 3 3] 22) := ⟨_, rfl⟩
  have hbw22 : Below w21.heap.size w21 w22 := by rw [hw22]; exact (Below.refl _ w21).alloc (Nat.le_refl _) _
  have hsw22 : w22.heap.size = w21.heap.size + 1 := by rw [hw22]; simp
  have hX22 : XS w22 w21.heap.size (.slice (some ⟨w21.heap.size, 0, none⟩) 2 2) [(.slice (some ⟨w19.heap.size, 0, none⟩) 3 3, [2, 1, 5]), (.slice (some ⟨w20.heap.size, 0, none⟩) 3 3, [2, 1, 3])] := by
    rw [hw22]
    refine XS.lit w21 [(.slice (some ⟨w19.heap.size, 0, none⟩) 3 3, [2, 1, 5]), (.slice (some ⟨w20.heap.size, 0, none⟩) 3 3, [2, 1, 3])] _ _ 2 rfl rfl rfl (by omega) (fun p hp => ?_)
    simp only [List.mem_cons, List.not_mem_nil, or_false] at hp
    rcases hp with rfl | rfl
    · exact hr20.below hbw21
    · exact hr21
  have hown : OwnB w19 w18.heap.size w19.heap.size (.slice (some ⟨w18.heap.size, 0, none⟩) 1 1) [0] := by
    rw [hw19]
    exact OwnB.of (n := 1) (World.ownsRow_lit (e := 5) (base := w18.heap.size) (size := 1) w18 #[.int .u8 0] 1 (Nat.le_refl _) (by simp [maxLen]) rfl)
  obtain ⟨Ax2, cx2, ex2, hrdl2⟩ := hX22.rdl
  injection ex2 with ex21 ex22 ex23
  subst ex21 ex23
  clear ex22
  have hb1922 : Below w19.heap.size w19 w22 := (hbw20.trans (hbw21.mono hbw20.size)).trans (hbw22.mono (by have := hbw20.size; have := hbw21.size; omega))
  have hb1822 : Below w18.heap.size w18 w22 := hbw19.trans (hb1922.mono hbw19.size)
  rw [show w21.heap.size = w18.heap.size + 1 + 1 + 1 by omega] at hrdl2
  rw [show w19.heap.size = w18.heap.size + 1 by omega] at hw22 hrdl2
  rw [show w20.heap.size = w18.heap.size + 1 + 1 by omega] at hw22 hrdl2
  have HR22 := Lib.hid (And.intro hrdl2 (And.intro (hown.below hb1922 (Nat.le_refl _)) hb1822))
  have hs19 : w19.heap.size = w18.heap.size + 1 := hsw19
  have hs1922 : w19.heap.size ≤ w22.heap.size := hb1922.size
  clear hrdl2 hown hX22 hr19 hr20 hr21 hb1922 hb1822 hbw19 hbw20 hbw21 hbw22 hsw19 hsw20 hsw21 hsw22
  go_wp2_with fail
  rw [← hw19, ← hw20, ← hw21, ← hw22]
  clear hw19 hw20 hw21 hw22
  refine (refSeq_any _ _ _ _ w22 HR22.out.1 (by simp) (by simp [cat])).mono ?_
  rintro en w23 ⟨A23, n23, c23, rfl, ho23, hb23⟩
  dsimp only
  have ho23 : OwnB w23 w22.heap.size w23.heap.size (.slice A23 n23 c23) (Ref.seq [[2, 1, 5], [2, 1, 3]]) := ho23
  have hl23 : (Ref.seq [[2, 1, 5], [2, 1, 3]]).length = 8 := by decide +kernel
  have hn23 := ownB_len ho23
  have hb1823 := HR22.out.2.2.trans (hb23.mono HR22.out.2.2.size)
  have ho0 : OwnB w23 w18.heap.size w19.heap.size (.slice (some ⟨w18.heap.size, 0, none⟩) 1 1) [0] := HR22.out.2.1.below hb23 hs1922
  have HR23 := Lib.hid (And.intro (ho23.mono (Nat.le_refl _) (Nat.le_refl _)).rdx (And.intro ho0 hb1823))
  have hs23 := hb1823.size
  clear ho23 ho0 hb1823 hb23 HR22
  go_wp2_with (first
    | (at_builtin; refine wpList_app rfl (.tmp 63) (.tmp 67) rfl w18.heap.size w19.heap.size _ _ rfl HR23.out.2.1 (by omega) _ _ _ _ (Ref.seq [[2, 1, 5], [2, 1, 3]]) rfl HR23.out.1.rds (by simp; omega) ?_; intro v24 w24 ho24 hg24 hor24 hb24; obtain ⟨B24, m24, d24, rfl, hr24⟩ := ho24.rd)
    | fail)
  have hl24 := ownB_len ho24
  refine (refWrite_lit 3 3 rfl B24 m24 d24 _ w24 hr24 (by rw [← hl24]; simp; omega)).mono ?_
  rintro en w25 ⟨A25, n25, c25, rfl, ho25, hb25⟩
  dsimp only
  have hb1825 : Below w18.heap.size w18 w25 := (HR23.out.2.2.trans hb24).trans (hb25.mono (by have := (HR23.out.2.2.trans hb24).size; omega))
  have hl25 := write_lt 3 ([0] ++ Ref.seq [[2, 1, 5], [2, 1, 3]]) 9 (by simp; omega) (by omega)
  obtain ⟨w26, hw26⟩ : ∃ w26, w26 = w25.alloc (.cells #[.slice A6 n6 c6, .slice A25 n25 c25] 22) := ⟨_, rfl⟩
  have hbw26 : Below w25.heap.size w25 w26 := by rw [hw26]; exact (Below.refl _ w25).alloc (Nat.le_refl _) _
  have hsw26 : w26.heap.size = w25.heap.size + 1 := by rw [hw26]; simp
  have hX26 : XS w26 w25.heap.size (.slice (some ⟨w25.heap.size, 0, none⟩) 2 2) [(.slice A6 n6 c6, al), (.slice A25 n25 c25, Der.write 3 ([0] ++ Ref.seq [[2, 1, 5], [2, 1, 3]]))] := by
    rw [hw26]
    refine XS.lit w25 [(.slice A6 n6 c6, al), (.slice A25 n25 c25, Der.write 3 ([0] ++ Ref.seq [[2, 1, 5], [2, 1, 3]]))] _ _ 2 rfl rfl rfl (by omega) (fun p hp => ?_)
    simp only [List.mem_cons, List.not_mem_nil, or_false] at hp
    rcases hp with rfl | rfl
    · exact H18.out.2.2.2.2.1.below hb1825
    · exact RdT.own (ho25.mono (Nat.le_refl _) (Nat.le_refl _))
  obtain ⟨Ax6, cx6, ex6, hrdl6⟩ := hX26.rdl
  injection ex6 with ex61 ex62 ex63
  subst ex61 ex63
  clear ex62
  have hb1826 := hb1825.trans (hbw26.mono hb1825.size)
  have HR26 := Lib.hid (And.intro hrdl6 (And.intro hb1826 hl25))
  clear hrdl6 hX26 ho24 hg24 hor24 hb24 hr24 hl24 ho25 hb25 hb1825 hb1826 hbw26 hsw26 HR23 hs23 hl23 hn23 hl25
  go_wp2_with fail
  rw [← hw26]
  clear hw26
  refine (refSeq_any _ _ _ _ w26 HR26.out.1 (by simp) (by unfold cat; have := HR26.out.2.2; simp only [List.map_cons, List.map_nil, List.flatten_cons, List.flatten_nil, List.append_nil, List.length_append] at this ⊢; omega)).mono ?_
  rintro en w27 ⟨A27, n27, c27, rfl, ho27, hb27⟩
  dsimp only
  have ho27 : OwnB w27 w26.heap.size w27.heap.size (.slice A27 n27 c27) (Ref.seq [al, Der.write 3 ([0] ++ Ref.seq [[2, 1, 5], [2, 1, 3]])]) := ho27
  have hG := HR26.out.2.1.trans (hb27.mono HR26.out.2.1.size)
  have H27 := Lib.hid (And.intro (H18.out.1.below hG H18.out.1.lt) (And.intro (H18.out.2.1.up hG) (And.intro (H18.out.2.2.1.trans (hG.mono H18.out.2.2.1.size)) (And.intro (H18.out.2.2.2.1.below hG) (And.intro (H18.out.2.2.2.2.1.below hG) (H18.out.2.2.2.2.2.below hG))))))
  obtain ⟨ky, hky⟩ : ∃ ky, ky = Ref.seq [al, Der.write 3 ([0] ++ Ref.seq [[2, 1, 5], [2, 1, 3]])] := ⟨_, rfl⟩
  rw [← hky] at ho27
  have hkl : ky.length ≤ 1000 := by
    rw [hky]
    refine Nat.le_trans (write_lt 48 _ 400 ?_ (by omega)) (by omega)
    have := HR26.out.2.2
    simp only [List.flatten_cons, List.flatten_nil, List.append_nil, List.length_append] at this ⊢
    omega
  have hrk : RdT w27 (.slice A27 n27 c27) ky := RdT.own (ho27.mono (Nat.le_refl _) (Nat.le_refl _))
  have hP3 := hPE.out.2.2
  rw [← hky] at hP3
  have HPT := Lib.hid (And.intro (show Calls Try.prog 34 #[k.val (.slice A0 n0 c0) (.slice A1 n1 c1) (.slice A2 n2 c2), .int .i64 6, .slice A27 n27 c27] w27 (RetOwn (Ref.wr (Ref.seq ((k.els.map (·.2.2)).set 6 ky)) (k.sig.take 100)) w27) from put_any k A0 A1 A2 n0 c0 n1 c1 n2 c2 w27 H27.out.2.1 6 (by omega) A27 n27 c27 ky hrk (by omega)) hP3)
  clear hky hkl hrk ho27 hG hb27 hP3 HR26 H18 hPE hL7
  go_upto_region 12 with (first
    | ((with_reducible refine at_load_case ?_); refine wpList_load_case rfl _ rfl w.heap.size k (.slice A0 n0 c0) (.slice A1 n1 c1) (.slice A2 n2 c2) rfl H27.out.1 ?_)
    | (go_at_call 34; refine HPT.out.1.mono ?_; rintro en w28 ⟨A28, n28, c28, rfl, ho28, hb28⟩)
    | (go_at_call 16; refine (parse_pc A28 n28 c28 _ w28 (ho28.mono (Nat.le_refl _) (Nat.le_refl _)).rdx).mono ?_; rintro en w29 ⟨hb29, C3, rfl, hPc3⟩; have hone := hPc3.one)
    | ((with_reducible refine at_store_cert ?_); refine wpList_store_cert rfl _ _ rfl w29.heap.size CV.zero C3 rfl rfl (Blk.new w29 _ _) hone ?_; intro w30 hB30 hg30)
    | fail)
  have hg3 : Below w29.heap.size w29 w30 := below_grow ((Below.refl _ w29).alloc (Nat.le_refl _) _) hg30 (Nat.le_refl _) (Nat.le_refl _)
  have hG : Below w27.heap.size w27 w30 := (hb28.trans (hb29.mono hb28.size)).trans (hg3.mono (by have := hb28.size; have := hb29.size; omega))
  have hPc := hPc3.rn hg3
  have H30 := Lib.hid (And.intro (H27.out.1.below hG H27.out.1.lt) (And.intro (H27.out.2.1.up hG) (And.intro (H27.out.2.2.1.trans (hG.mono H27.out.2.2.1.size)) (And.intro (H27.out.2.2.2.1.below hG) (And.intro (H27.out.2.2.2.2.1.below hG) (H27.out.2.2.2.2.2.below hG))))))
  obtain ⟨g29, hg29⟩ : ∃ g, g = w29.heap.size := ⟨_, rfl⟩
  rw [← hg29] at hB30 ⊢
  obtain ⟨Ab2, nb2, cb2, eb2, hrb2, _⟩ := H30.out.2.2.2.1
  injection eb2 with eb21 eb22 eb23
  subst eb21 eb22 eb23
  have ks1 := run_string hrb2 9 Try.underlying9
  have hlit := Rd.lit w30 5 X.keyOid [.int .u8 42, .int .u8 134, .int .u8 72, .int .u8 134, .int .u8 247, .int .u8 13, .int .u8 1, .int .u8 1, .int .u8 1] _ 9 rfl rfl rfl (by omega)
  have ks2 := run_string hlit 9 Try.underlying9
  obtain ⟨w31, hw31⟩ : ∃ w31, w31 = w30.alloc (.cells #[.int .u8 42, .int .u8 134, .int .u8 72, .int .u8 134, .int .u8 247, .int .u8 13, .int .u8 1, .int .u8 1, .int .u8 1] 5) := ⟨_, rfl⟩
  have hb3031 : Below w30.heap.size w30 w31 := by rw [hw31]; exact (Below.refl _ w30).alloc (Nat.le_refl _) _
  have hb31 := H30.out.2.2.1.trans (hb3031.mono H30.out.2.2.1.size)
  have hB31 := hB30.below hb3031 hB30.lt
  have H31 := Lib.hid (And.intro hb31 (And.intro hB31 (And.intro (hPc.rn hb3031) HPT.out.2)))
  clear hg29 hg3 hG hone hPc3 hPc hB30 hg30 hb28 hb29 ho28 HPT H27 H30 hlit hrb2 hb3031 hb31 hB31
  go_upto_region 13 with fail
  rw [← hw31]
  clear hw31 ks1 ks2
  rcases H31.out.2.2.2 with ⟨hk, s, hs, hn5, he3⟩ | ⟨hk, hs⟩
  · have hPq := H31.out.2.2.1
    rw [hs] at hPq ⊢
    obtain ⟨_, _, hee, _, hci⟩ := hPq.out
    obtain ⟨An, nn, cn, en5, hrn, _⟩ := hci.n
    rw [hn5] at hrn
    have hn1 := hrn.len
    obtain rfl : nn = 1 := by simpa using hn1.symm
    rw [he3] at hee
    have k17 : w31.cell? ⟨g29, 17, none⟩ = some (.slice An 1 cn) := (H31.out.2.1.at_ 17).trans (by rw [← en5]; rfl)
    have k18 : w31.cell? ⟨g29, 18, none⟩ = some (.int .u64 3) := (H31.out.2.1.at_ 18).trans (by
      have : C3.cells[18]? = some (.int .u64 (C3.e : Int)) := rfl
      rw [this, hee]; rfl)
    have HW := Lib.hid H31.out.1
    have hkd : ([42, 3] == X.keyOid) = true := by rw [beq_iff_eq]; exact hk
    rw [hkd]
    have e0 : (((Cert.Ans.yes s (k.sig.take 100)).err : Nat) : Int) = 0 := rfl
    rw [e0]
    clear hk hs hn5 he3 hPq hee hci en5 hrn hn1 H31 hkd
    have her := hER.out
    clear hER
    cases sg
    · rw [if_neg (by simp)] at her
      subst her
      go_wp2_with fail
      refine (works12_any _).mono ?_
      rintro e wz ⟨rfl, hbz⟩
      go_wp2
      go_ret
      exact ⟨rfl, HW.out.trans (hbz.mono HW.out.size)⟩
    · rw [if_pos rfl] at her
      subst her
      go_wp2_with fail
      refine (works12_any _).mono ?_
      rintro e wz ⟨rfl, hbz⟩
      go_wp2
      go_ret
      exact ⟨rfl, HW.out.trans (hbz.mono HW.out.size)⟩
  · rw [hs]
    have HW := Lib.hid H31.out.1
    have hkd : ([42, 3] == X.keyOid) = false := by rw [beq_eq_false_iff_ne]; exact hk
    rw [hkd]
    have e0 : (((Cert.Ans.no 9).err : Nat) : Int) = 9 := rfl
    rw [e0]
    clear hk hs H31 hkd
    have her := hER.out
    clear hER
    cases sg
    · rw [if_neg (by simp)] at her
      subst her
      go_wp2_with fail
      refine (works12_any _).mono ?_
      rintro e wz ⟨rfl, hbz⟩
      go_wp2
      go_ret
      exact ⟨rfl, HW.out.trans (hbz.mono HW.out.size)⟩
    · rw [if_pos rfl] at her
      subst her
      go_wp2_with fail
      refine (works12_any _).mono ?_
      rintro e wz ⟨rfl, hbz⟩
      go_wp2
      go_ret
      exact ⟨rfl, HW.out.trans (hbz.mono HW.out.size)⟩
theorem methods_long (k : Kase) (A0 A1 A2 : Option Addr) (n0 c0 n1 c1 n2 c2 : Nat) (A3 : Option Addr) (n3 c3 : Nat) (zs : List Nat) (w : World) (hk : k.come w A0 A1 A2 n0 c0 n1 c1 n2 c2)
    (h3 : RdU w w.heap.size A3 n3 c3 zs) (hc : 300 < (Der.putOid zs).length) :
    Calls Try.prog 11 #[k.val (.slice A0 n0 c0) (.slice A1 n1 c1) (.slice A2 n2 c2), .slice A3 n3 c3] w (LawPost w) := by
  obtain ⟨w0, hw0, hKB0⟩ : ∃ w0, w0 = w.alloc (.cells (k.row (.slice A0 n0 c0) (.slice A1 n1 c1) (.slice A2 n2 c2)) 42) ∧ Blk w0 w.heap.size 42 (k.row (.slice A0 n0 c0) (.slice A1 n1 c1) (.slice A2 n2 c2)) := ⟨_, rfl, Blk.new w _ _⟩
  have hb0 : Below w.heap.size w w0 := by rw [hw0]; exact (Below.refl _ w).alloc (Nat.le_refl _) _
  have HK := Lib.hid (And.intro hKB0 (And.intro (h3.up hb0) (And.intro (hk.up hb0) hb0)))
  clear hk h3 hKB0 hb0
  obtain ⟨KV, hKV⟩ : ∃ KV, KV = k.val (.slice A0 n0 c0) (.slice A1 n1 c1) (.slice A2 n2 c2) := ⟨_, rfl⟩
  have hKV2 : KV = Value.agg (k.row (.slice A0 n0 c0) (.slice A1 n1 c1) (.slice A2 n2 c2)) := hKV
  rw [← hKV]
  clear hKV
  subst hKV2
  go_enter Try.func11, Try.ntmps11
  go_upto_region 1 with fail
  rw [← hw0]
  clear hw0
  go_wp2_with fail
  refine (refOid_any A3 n3 c3 zs w0 HK.out.2.1).mono ?_
  rintro en w1 ⟨B, m, d, rfl, ho1, hb1⟩
  have hl1 := ownB_len ho1
  have hS := oidOf_purp zs HK.out.2.1.small
  have H1 := Lib.hid (And.intro (HK.out.1.below hb1 HK.out.1.lt) (And.intro (HK.out.2.2.1.up hb1) (HK.out.2.2.2.trans (hb1.mono HK.out.2.2.2.size))))
  have hz : ((m : Int) == 0) = false := by simp; omega
  have h300' : (300 : Int) < m := by omega
  have hX : X.oidOf zs = [42, 3] := by unfold X.oidOf; rw [if_pos (by omega)]
  rw [hX] at hS
  clear hc hX
  go_upto_region 4 with fail
  have hr2 := Rd.lit w1 5 [42, 3] [.int .u8 42, .int .u8 3] _ 2 rfl rfl rfl (by omega)
  obtain ⟨w2, hw2⟩ : ∃ w2, w2 = w1.alloc (.cells #[.int .u8 42, .int .u8 3] 5) := ⟨_, rfl⟩
  have hb12 : Below w1.heap.size w1 w2 := by rw [hw2]; exact (Below.refl _ w1).alloc (Nat.le_refl _) _
  have hrt2 : RdT w2 (.slice (some ⟨w1.heap.size, 0, none⟩) 2 2) [42, 3] := by rw [hw2]; exact RdT.blk (heap_alloc_new w1 _) hr2
  rw [← hw2]
  have H2 := Lib.hid (And.intro (H1.out.1.below hb12 H1.out.1.lt) (And.intro (H1.out.2.1.up hb12) (And.intro (H1.out.2.2.trans (hb12.mono H1.out.2.2.size)) (And.intro hrt2 hS))))
  clear H1 HK ho1 hb1 hS hl1 hw2 hr2 hb12 hrt2
  have hbl : [42, 3].length ≤ 300 := H2.out.2.2.2.2.1
  obtain ⟨Ab, nb, cb, eb, hrb, _⟩ := H2.out.2.2.2.1
  injection eb with eb1 eb2 eb3
  subst eb1 eb2 eb3
  go_wp2_with fail
  refine (refWrite_lit 6 6 rfl (some ⟨w1.heap.size, 0, none⟩) 2 2 [42, 3] w2 hrb (by have := hrb.len; omega)).mono ?_
  rintro en w3 ⟨A3, n3, c3, rfl, ho3, hb3⟩
  dsimp only
  have hw3 := write_lt 6 [42, 3] 300 hbl (by omega)
  obtain ⟨w4, hw4⟩ : ∃ w4, w4 = w3.alloc (.cells #[.int .u8 5, .int .u8 0] 5) := ⟨_, rfl⟩
  have hbw4 : Below w3.heap.size w3 w4 := by rw [hw4]; exact (Below.refl _ w3).alloc (Nat.le_refl _) _
  have hsw4 : w4.heap.size = w3.heap.size + 1 := by rw [hw4]; simp
  have hr4 : RdT w4 (.slice (some ⟨w3.heap.size, 0, none⟩) 2 2) [5, 0] := by rw [hw4]; exact RdT.blk (heap_alloc_new w3 _) (Rd.lit w3 5 [5, 0] [.int .u8 5, .int .u8 0] _ 2 rfl rfl rfl (by omega))
  obtain ⟨w5, hw5⟩ : ∃ w5, w5 = w4.alloc (.cells #[.slice A3 n3 c3, .slice (some ⟨w3.heap.size, 0, none⟩) 2 2] 22) := ⟨_, rfl⟩
  have hbw5 : Below w4.heap.size w4 w5 := by rw [hw5]; exact (Below.refl _ w4).alloc (Nat.le_refl _) _
  have hsw5 : w5.heap.size = w4.heap.size + 1 := by rw [hw5]; simp
  have hX5 : XS w5 w4.heap.size (.slice (some ⟨w4.heap.size, 0, none⟩) 2 2) [(.slice A3 n3 c3, Der.write 6 [42, 3]), (.slice (some ⟨w3.heap.size, 0, none⟩) 2 2, [5, 0])] := by
    rw [hw5]
    refine XS.lit w4 [(.slice A3 n3 c3, Der.write 6 [42, 3]), (.slice (some ⟨w3.heap.size, 0, none⟩) 2 2, [5, 0])] _ _ 2 rfl rfl rfl (by omega) (fun p hp => ?_)
    simp only [List.mem_cons, List.not_mem_nil, or_false] at hp
    rcases hp with rfl | rfl
    · exact (RdT.own ho3).below hbw4
    · exact hr4
  rw [hsw4] at hX5
  obtain ⟨Ax, cx, ex, hrdl⟩ := hX5.rdl
  injection ex with ex1 ex2 ex3
  subst ex1 ex3
  clear ex2
  have hbx : Below w2.heap.size w2 w5 := (hb3.trans (hbw4.mono hb3.size)).trans (hbw5.mono (by have := hb3.size; omega))
  have hHS := Lib.hid (And.intro hrdl (And.intro hbx hw3))
  clear hrdl hbx hX5 hr4 ho3 hrb hb3 hbw4 hbw5 hw3
  go_wp2_with fail
  rw [← hw4, ← hw5]
  clear hw4 hw5 hsw4 hsw5
  refine (refSeq_any _ _ _ _ w5 hHS.out.1 (by simp) (by unfold cat; simp only [List.map_cons, List.map_nil, List.flatten_cons, List.flatten_nil, List.append_nil, List.length_append]; have := hHS.out.2.2; simp; omega)).mono ?_
  rintro en w6 ⟨A6, n6, c6, rfl, ho6, hb6⟩
  dsimp only
  have hG := hHS.out.2.1.trans (hb6.mono hHS.out.2.1.size)
  have hra : RdT w6 (.slice A6 n6 c6) (Ref.seq [Der.write 6 [42, 3], [5, 0]]) := RdT.own (ho6.mono (Nat.le_refl _) (Nat.le_refl _))
  have hP1 := put2_parse k H2.out.2.1.path H2.out.2.2.2.2
  have hP2 := outer_parse k H2.out.2.1.path H2.out.2.2.2.2
  have hP3 := put6_parse k H2.out.2.1.path H2.out.2.2.2.2
  have hP4 := signs_iff (b := [42, 3]) hbl
  unfold X.kind at hP3
  rw [algo_raw] at hP4
  have hall := (algo_len [42, 3] hbl).2
  rw [algo_raw] at hall
  obtain ⟨al, hal⟩ : ∃ al, Ref.seq [Der.write 6 [42, 3], [5, 0]] = al := ⟨_, rfl⟩
  rw [hal] at hP1 hP2 hP3 hP4 hra hall
  have hP := Lib.hid (And.intro hP1 (And.intro hP2 (And.intro hP3 hP4)))
  have hbC : Blk w6 w.heap.size 42 (k.row (.slice A0 n0 c0) (.slice A1 n1 c1) (.slice A2 n2 c2)) := H2.out.1.below hG H2.out.1.lt
  have H6 := Lib.hid (And.intro hbC (And.intro (H2.out.2.1.up hG) (And.intro (H2.out.2.2.1.trans (hG.mono H2.out.2.2.1.size)) (And.intro (H2.out.2.2.2.1.below hG) hra))))
  clear hP1 hP2 hP3 hP4 hal hra hG ho6 hb6 hHS H2 hbC
  go_wp2_with (first
    | ((with_reducible refine at_load_case ?_); refine wpList_load_case rfl _ rfl w.heap.size k (.slice A0 n0 c0) (.slice A1 n1 c1) (.slice A2 n2 c2) rfl H6.out.1 ?_)
    | fail)
  refine (elements_any k A0 A1 A2 n0 c0 n1 c1 n2 c2 w6 H6.out.2.1).mono ?_
  rintro en w7 ⟨A7, c7, l7, rfl, hX7, hl7, hb7⟩
  have H7a := Lib.hid (And.intro (H6.out.1.below hb7 H6.out.1.lt) (And.intro (H6.out.2.1.up hb7) (And.intro (H6.out.2.2.1.trans (hb7.mono H6.out.2.2.1.size)) (And.intro (H6.out.2.2.2.1.below hb7) (H6.out.2.2.2.2.below hb7)))))
  have H7 := Lib.hid (And.intro H7a.out.1 (And.intro H7a.out.2.1 (And.intro H7a.out.2.2.1 (And.intro H7a.out.2.2.2.1 (And.intro H7a.out.2.2.2.2 hX7)))))
  have hL7 := Lib.hid hl7
  obtain ⟨Ae, ce, ee, hrd7⟩ := hX7.rdl
  injection ee with ee1 ee2 ee3
  subst ee1 ee3
  rw [← ee2] at hrd7
  clear ee2
  obtain ⟨be, oe, rfl, hbe⟩ := hrd7.plain (by omega)
  obtain ⟨A8, n8, c8, x8, hx8, k8, hr8⟩ := hrd7.part (k := 2) (by omega)
  have hx8s : x8 = Ref.signAlg := by
    have h1 := congrArg (fun z => z[2]?) hl7
    simp only [List.getElem?_map, hx8, Option.map_some] at h1
    have h2 : (k.els[2]?).map (·.2.2) = some Ref.signAlg := by rw [← alg_raw]; rfl
    rw [h2] at h1
    injection h1
  rw [hx8s] at hr8
  clear hx8s hx8
  obtain ⟨Aq, nq6, cq, eq6, hrA, _⟩ := H7.out.2.2.2.2.1
  injection eq6 with eq1 eq2 eq3
  subst eq1 eq2 eq3
  have ks1 : ∀ z, (convert 22 9 (.slice A6 n6 c6)).run Try.prog (w7.drewN z) = .ok (.string ⟨al.toArray⟩) (w7.drewN z) := fun z => run_string (hrA.drewN z) 9 Try.underlying9
  have ks2 : ∀ z, (convert 22 9 (.slice A8 n8 c8)).run Try.prog (w7.drewN z) = .ok (.string ⟨Ref.signAlg.toArray⟩) (w7.drewN z) := fun z => run_string (hr8.drewN z) 9 Try.underlying9
  clear hrA hr8 hrd7 hX7 hl7 hb7 H6 H7a
  go_upto_region 6 with fail
  go_quiet (fail)
  obtain ⟨w8, hw8⟩ : ∃ w8, w8 = w7.drewN nq := ⟨_, rfl⟩
  have hb78 : Below w7.heap.size w7 w8 := by rw [hw8]; exact below_drewN (Below.refl _ _) nq
  rw [← hw8, hP.out.2.2.2]
  clear hw8 ks1 ks2 k8
  obtain ⟨sg, hsg⟩ : ∃ sg, ([42, 3] == X.signOid) = sg := ⟨_, rfl⟩
  rw [hsg]
  have hsd : [42, 3] = X.signOid ↔ sg = true := by rw [← hsg, beq_iff_eq]
  have he2 : ((Cert.parse (Ref.wr (Ref.seq ((k.els.map (·.2.2)).set 2 al)) (k.sig.take 100))).err : Int) = if sg then 0 else 9 := by
    rw [hP.out.1]
    by_cases h : [42, 3] = X.signOid
    · rw [if_pos h, if_pos (hsd.1 h)]; rfl
    · rw [if_neg h, if_neg (fun e => h (hsd.2 e))]; rfl
  have heo : ((Cert.parse (Ref.seq [Ref.seq (k.els.map (·.2.2)), al, Der.write 3 [0]])).err : Int) = if sg then 0 else 9 := by
    obtain ⟨so, hso⟩ := hP.out.2.1
    rw [hso]
    by_cases h : [42, 3] = X.signOid
    · rw [if_pos h, if_pos (hsd.1 h)]; rfl
    · rw [if_neg h, if_neg (fun e => h (hsd.2 e))]; rfl
  obtain ⟨er, her⟩ : ∃ er : Int, er = if sg then 0 else 9 := ⟨_, rfl⟩
  rw [← her] at he2 heo
  have hPE := Lib.hid (And.intro he2 (And.intro heo hP.out.2.2.1))
  have hER := Lib.hid her
  clear he2 heo her hsd hsg hP
  have H8 := Lib.hid (And.intro (H7.out.1.below hb78 H7.out.1.lt) (And.intro (H7.out.2.1.up hb78) (And.intro (H7.out.2.2.1.trans (hb78.mono H7.out.2.2.1.size)) (And.intro (H7.out.2.2.2.1.below hb78) (And.intro (H7.out.2.2.2.2.1.below hb78) (H7.out.2.2.2.2.2.below hb78))))))
  clear hb78 H7
  have HPT := Lib.hid (show Calls Try.prog 34 #[k.val (.slice A0 n0 c0) (.slice A1 n1 c1) (.slice A2 n2 c2), .int .i64 2, .slice A6 n6 c6] w8 (RetOwn (Ref.wr (Ref.seq ((k.els.map (·.2.2)).set 2 al)) (k.sig.take 100)) w8) from put_any k A0 A1 A2 n0 c0 n1 c1 n2 c2 w8 H8.out.2.1 2 (by omega) A6 n6 c6 al H8.out.2.2.2.2.1 (by omega))
  go_upto_region 8 with (first
    | ((with_reducible refine at_load_case ?_); refine wpList_load_case rfl _ rfl w.heap.size k (.slice A0 n0 c0) (.slice A1 n1 c1) (.slice A2 n2 c2) rfl H8.out.1 ?_)
    | (go_at_call 34; refine HPT.out.mono ?_; rintro en w9 ⟨A9, n9, c9, rfl, ho9, hb9⟩)
    | (go_at_call 16; refine (parse_pc A9 n9 c9 _ w9 (ho9.mono (Nat.le_refl _) (Nat.le_refl _)).rdx).mono ?_; rintro en w10 ⟨hb10, C1, rfl, hPc1⟩; have hone := hPc1.one)
    | ((with_reducible refine at_store_cert ?_); refine wpList_store_cert rfl _ _ rfl w10.heap.size CV.zero C1 rfl rfl (Blk.new w10 _ _) hone ?_; intro w11 hB11 hg11)
    | fail)
  have hg3 : Below w10.heap.size w10 w11 := below_grow ((Below.refl _ w10).alloc (Nat.le_refl _) _) hg11 (Nat.le_refl _) (Nat.le_refl _)
  have hG : Below w8.heap.size w8 w11 := (hb9.trans (hb10.mono hb9.size)).trans (hg3.mono (by have := hb9.size; have := hb10.size; omega))
  rw [hPE.out.1]
  have H11 := Lib.hid (And.intro (H8.out.1.below hG H8.out.1.lt) (And.intro (H8.out.2.1.up hG) (And.intro (H8.out.2.2.1.trans (hG.mono H8.out.2.2.1.size)) (And.intro (H8.out.2.2.2.1.below hG) (And.intro (H8.out.2.2.2.2.1.below hG) (H8.out.2.2.2.2.2.below hG))))))
  obtain ⟨g9, hg9⟩ : ∃ g, g = w10.heap.size := ⟨_, rfl⟩
  rw [← hg9]
  clear hg9 hg3 hG hone hPc1 hB11 hg11 hb9 hb10 ho9 HPT H8
  obtain ⟨Ay, cy, ey, hrdy⟩ := H11.out.2.2.2.2.2.rdl
  injection ey with y1 y2 y3
  subst y1 y3
  rw [← y2] at hrdy
  have HRY := Lib.hid (And.intro hrdy y2)
  clear hrdy y2
  go_wp2_with fail
  refine (refSeq_any _ 7 _ l7 w11 HRY.out.1 (by omega) (by unfold cat; rw [hL7.out]; have := els_few k; unfold raws at this; omega)).mono ?_
  rintro en w12 ⟨A12, n12, c12, rfl, ho12, hb12⟩
  dsimp only
  rw [hL7.out] at ho12
  have hl12 : (Ref.seq (k.els.map (·.2.2))).length ≤ 1747 := write_lt 48 (raws k.els) 1741 (els_few k) (by omega)
  obtain ⟨w13, hw13⟩ : ∃ w13, w13 = w12.alloc (.cells #[.int .u8 0] 5) := ⟨_, rfl⟩
  have hbw13 : Below w12.heap.size w12 w13 := by rw [hw13]; exact (Below.refl _ w12).alloc (Nat.le_refl _) _
  have hsw13 : w13.heap.size = w12.heap.size + 1 := by rw [hw13]; simp
  have hr13 : RdT w13 (.slice (some ⟨w12.heap.size, 0, none⟩) 1 1) [0] := by rw [hw13]; exact RdT.blk (heap_alloc_new w12 _) (Rd.lit w12 5 [0] [.int .u8 0] _ 1 rfl rfl rfl (by omega))
  have hrd13 : Rd w13 w13.heap.size (some ⟨w12.heap.size, 0, none⟩) 1 1 [0] := by rw [hw13]; exact Rd.lit w12 5 [0] [.int .u8 0] _ 1 rfl rfl rfl (by omega)
  have HR13 := Lib.hid (And.intro hrd13 (And.intro (RdT.own (ho12.mono (Nat.le_refl _) (Nat.le_refl _))) (And.intro hb12 (And.intro hbw13 hl12))))
  clear hrd13 hr13 ho12 hb12 hbw13 hsw13 hl12
  go_wp2_with fail
  rw [← hw13]
  clear hw13
  refine (refWrite_lit 3 3 rfl (some ⟨w12.heap.size, 0, none⟩) 1 1 [0] w13 HR13.out.1 (by omega)).mono ?_
  rintro en w14 ⟨A14, n14, c14, rfl, ho14, hb14⟩
  dsimp only
  have hb1214 : Below w12.heap.size w12 w14 := HR13.out.2.2.2.1.trans (hb14.mono HR13.out.2.2.2.1.size)
  have hb1114 : Below w11.heap.size w11 w14 := HR13.out.2.2.1.trans (hb1214.mono HR13.out.2.2.1.size)
  obtain ⟨w15, hw15⟩ : ∃ w15, w15 = w14.alloc (.cells #[.slice A12 n12 c12, .slice A6 n6 c6, .slice A14 n14 c14] 22) := ⟨_, rfl⟩
  have hbw15 : Below w14.heap.size w14 w15 := by rw [hw15]; exact (Below.refl _ w14).alloc (Nat.le_refl _) _
  have hsw15 : w15.heap.size = w14.heap.size + 1 := by rw [hw15]; simp
  have hX15 : XS w15 w14.heap.size (.slice (some ⟨w14.heap.size, 0, none⟩) 3 3) [(.slice A12 n12 c12, Ref.seq (k.els.map (·.2.2))), (.slice A6 n6 c6, al), (.slice A14 n14 c14, Der.write 3 [0])] := by
    rw [hw15]
    refine XS.lit w14 [(.slice A12 n12 c12, Ref.seq (k.els.map (·.2.2))), (.slice A6 n6 c6, al), (.slice A14 n14 c14, Der.write 3 [0])] _ _ 3 rfl rfl rfl (by omega) (fun p hp => ?_)
    simp only [List.mem_cons, List.not_mem_nil, or_false] at hp
    rcases hp with rfl | rfl | rfl
    · exact HR13.out.2.1.below hb1214
    · exact H11.out.2.2.2.2.1.below hb1114
    · exact RdT.own (ho14.mono (Nat.le_refl _) (Nat.le_refl _))
  obtain ⟨Ax5, cx5, ex5, hrdl5⟩ := hX15.rdl
  injection ex5 with ex51 ex52 ex53
  subst ex51 ex53
  clear ex52
  have hb1115 := hb1114.trans (hbw15.mono hb1114.size)
  have HR15 := Lib.hid (And.intro hrdl5 (And.intro hb1115 HR13.out.2.2.2.2))
  clear hrdl5 hX15 ho14 hb14 hb1214 hb1114 hb1115 hbw15 hsw15 HR13
  go_wp2_with fail
  rw [← hw15]
  clear hw15
  refine (refSeq_any _ _ _ _ w15 HR15.out.1 (by simp) (by unfold cat; have h3 : (Der.write 3 [0]).length ≤ 7 := write_lt 3 [0] 1 (by simp) (by omega); have := HR15.out.2.2; simp only [List.map_cons, List.map_nil, List.flatten_cons, List.flatten_nil, List.append_nil, List.length_append]; omega)).mono ?_
  rintro en w16 ⟨A16, n16, c16, rfl, ho16, hb16⟩
  dsimp only
  have ho16 : OwnB w16 w15.heap.size w16.heap.size (.slice A16 n16 c16) (Ref.seq [Ref.seq (k.els.map (·.2.2)), al, Der.write 3 [0]]) := ho16
  have hb1116 := HR15.out.2.1.trans (hb16.mono HR15.out.2.1.size)
  go_upto_region 10 with (first
    | (go_at_call 16; refine (parse_pc A16 n16 c16 _ w16 (ho16.mono (Nat.le_refl _) (Nat.le_refl _)).rdx).mono ?_; rintro en w17 ⟨hb17, C2, rfl, hPc2⟩; have hone := hPc2.one)
    | ((with_reducible refine at_store_cert ?_); refine wpList_store_cert rfl _ _ rfl w17.heap.size CV.zero C2 rfl rfl (Blk.new w17 _ _) hone ?_; intro w18 hB18 hg18)
    | fail)
  have hg3 : Below w17.heap.size w17 w18 := below_grow ((Below.refl _ w17).alloc (Nat.le_refl _) _) hg18 (Nat.le_refl _) (Nat.le_refl _)
  have hG : Below w11.heap.size w11 w18 := (hb1116.trans (hb17.mono hb1116.size)).trans (hg3.mono (by have := hb1116.size; have := hb17.size; omega))
  rw [hPE.out.2.1]
  have H18 := Lib.hid (And.intro (H11.out.1.below hG H11.out.1.lt) (And.intro (H11.out.2.1.up hG) (And.intro (H11.out.2.2.1.trans (hG.mono H11.out.2.2.1.size)) (And.intro (H11.out.2.2.2.1.below hG) (And.intro (H11.out.2.2.2.2.1.below hG) (H11.out.2.2.2.2.2.below hG))))))
  obtain ⟨g17, hg17⟩ : ∃ g, g = w17.heap.size := ⟨_, rfl⟩
  rw [← hg17]
  clear hg17 hg3 hG hone hPc2 hB18 hg18 hb17 hb1116 hb16 ho16 HR15 HRY H11
  obtain ⟨w19, hw19⟩ : ∃ w19, w19 = w18.alloc (.cells #[.int .u8 0] 5) := ⟨_, rfl⟩
  have hbw19 : Below w18.heap.size w18 w19 := by rw [hw19]; exact (Below.refl _ w18).alloc (Nat.le_refl _) _
  have hsw19 : w19.heap.size = w18.heap.size + 1 := by rw [hw19]; simp
  have hr19 : RdT w19 (.slice (some ⟨w18.heap.size, 0, none⟩) 1 1) [0] := by rw [hw19]; exact RdT.blk (heap_alloc_new w18 _) (Rd.lit w18 5 [0] [.int .u8 0] _ 1 rfl rfl rfl (by omega))
  obtain ⟨w20, hw20⟩ : ∃ w20, w20 = w19.alloc (.cells #[.int .u8 2, .int .u8 1, .int .u8 5] 5) := ⟨_, rfl⟩
  have hbw20 : Below w19.heap.size w19 w20 := by rw [hw20]; exact (Below.refl _ w19).alloc (Nat.le_refl _) _
  have hsw20 : w20.heap.size = w19.heap.size + 1 := by rw [hw20]; simp
  have hr20 : RdT w20 (.slice (some ⟨w19.heap.size, 0, none⟩) 3 3) [2, 1, 5] := by rw [hw20]; exact RdT.blk (heap_alloc_new w19 _) (Rd.lit w19 5 [2, 1, 5] [.int .u8 2, .int .u8 1, .int .u8 5] _ 3 rfl rfl rfl (by omega))
  obtain ⟨w21, hw21⟩ : ∃ w21, w21 = w20.alloc (.cells #[.int .u8 2, .int .u8 1, .int .u8 3] 5) := ⟨_, rfl⟩
  have hbw21 : Below w20.heap.size w20 w21 := by rw [hw21]; exact (Below.refl _ w20).alloc (Nat.le_refl _) _
  have hsw21 : w21.heap.size = w20.heap.size + 1 := by rw [hw21]; simp
  have hr21 : RdT w21 (.slice (some ⟨w20.heap.size, 0, none⟩) 3 3) [2, 1, 3] := by rw [hw21]; exact RdT.blk (heap_alloc_new w20 _) (Rd.lit w20 5 [2, 1, 3] [.int .u8 2, .int .u8 1, .int .u8 3] _ 3 rfl rfl rfl (by omega))
  obtain ⟨w22, hw22⟩ : ∃ w22, w22 = w21.alloc (.cells #[.slice (some ⟨w19.heap.size, 0, none⟩) 3 3, .slice (some ⟨w20.heap.size, 0, none⟩) 3 3] 22) := ⟨_, rfl⟩
  have hbw22 : Below w21.heap.size w21 w22 := by rw [hw22]; exact (Below.refl _ w21).alloc (Nat.le_refl _) _
  have hsw22 : w22.heap.size = w21.heap.size + 1 := by rw [hw22]; simp
  have hX22 : XS w22 w21.heap.size (.slice (some ⟨w21.heap.size, 0, none⟩) 2 2) [(.slice (some ⟨w19.heap.size, 0, none⟩) 3 3, [2, 1, 5]), (.slice (some ⟨w20.heap.size, 0, none⟩) 3 3, [2, 1, 3])] := by
    rw [hw22]
    refine XS.lit w21 [(.slice (some ⟨w19.heap.size, 0, none⟩) 3 3, [2, 1, 5]), (.slice (some ⟨w20.heap.size, 0, none⟩) 3 3, [2, 1, 3])] _ _ 2 rfl rfl rfl (by omega) (fun p hp => ?_)
    simp only [List.mem_cons, List.not_mem_nil, or_false] at hp
    rcases hp with rfl | rfl
    · exact hr20.below hbw21
    · exact hr21
  have hown : OwnB w19 w18.heap.size w19.heap.size (.slice (some ⟨w18.heap.size, 0, none⟩) 1 1) [0] := by
    rw [hw19]
    exact OwnB.of (n := 1) (World.ownsRow_lit (e := 5) (base := w18.heap.size) (size := 1) w18 #[.int .u8 0] 1 (Nat.le_refl _) (by simp [maxLen]) rfl)
  obtain ⟨Ax2, cx2, ex2, hrdl2⟩ := hX22.rdl
  injection ex2 with ex21 ex22 ex23
  subst ex21 ex23
  clear ex22
  have hb1922 : Below w19.heap.size w19 w22 := (hbw20.trans (hbw21.mono hbw20.size)).trans (hbw22.mono (by have := hbw20.size; have := hbw21.size; omega))
  have hb1822 : Below w18.heap.size w18 w22 := hbw19.trans (hb1922.mono hbw19.size)
  rw [show w21.heap.size = w18.heap.size + 1 + 1 + 1 by omega] at hrdl2
  rw [show w19.heap.size = w18.heap.size + 1 by omega] at hw22 hrdl2
  rw [show w20.heap.size = w18.heap.size + 1 + 1 by omega] at hw22 hrdl2
  have HR22 := Lib.hid (And.intro hrdl2 (And.intro (hown.below hb1922 (Nat.le_refl _)) hb1822))
  have hs19 : w19.heap.size = w18.heap.size + 1 := hsw19
  have hs1922 : w19.heap.size ≤ w22.heap.size := hb1922.size
  clear hrdl2 hown hX22 hr19 hr20 hr21 hb1922 hb1822 hbw19 hbw20 hbw21 hbw22 hsw19 hsw20 hsw21 hsw22
  go_wp2_with fail
  rw [← hw19, ← hw20, ← hw21, ← hw22]
  clear hw19 hw20 hw21 hw22
  refine (refSeq_any _ _ _ _ w22 HR22.out.1 (by simp) (by simp [cat])).mono ?_
  rintro en w23 ⟨A23, n23, c23, rfl, ho23, hb23⟩
  dsimp only
  have ho23 : OwnB w23 w22.heap.size w23.heap.size (.slice A23 n23 c23) (Ref.seq [[2, 1, 5], [2, 1, 3]]) := ho23
  have hl23 : (Ref.seq [[2, 1, 5], [2, 1, 3]]).length = 8 := by decide +kernel
  have hn23 := ownB_len ho23
  have hb1823 := HR22.out.2.2.trans (hb23.mono HR22.out.2.2.size)
  have ho0 : OwnB w23 w18.heap.size w19.heap.size (.slice (some ⟨w18.heap.size, 0, none⟩) 1 1) [0] := HR22.out.2.1.below hb23 hs1922
  have HR23 := Lib.hid (And.intro (ho23.mono (Nat.le_refl _) (Nat.le_refl _)).rdx (And.intro ho0 hb1823))
  have hs23 := hb1823.size
  clear ho23 ho0 hb1823 hb23 HR22
  go_wp2_with (first
    | (at_builtin; refine wpList_app rfl (.tmp 63) (.tmp 67) rfl w18.heap.size w19.heap.size _ _ rfl HR23.out.2.1 (by omega) _ _ _ _ (Ref.seq [[2, 1, 5], [2, 1, 3]]) rfl HR23.out.1.rds (by simp; omega) ?_; intro v24 w24 ho24 hg24 hor24 hb24; obtain ⟨B24, m24, d24, rfl, hr24⟩ := ho24.rd)
    | fail)
  have hl24 := ownB_len ho24
  refine (refWrite_lit 3 3 rfl B24 m24 d24 _ w24 hr24 (by rw [← hl24]; simp; omega)).mono ?_
  rintro en w25 ⟨A25, n25, c25, rfl, ho25, hb25⟩
  dsimp only
  have hb1825 : Below w18.heap.size w18 w25 := (HR23.out.2.2.trans hb24).trans (hb25.mono (by have := (HR23.out.2.2.trans hb24).size; omega))
  have hl25 := write_lt 3 ([0] ++ Ref.seq [[2, 1, 5], [2, 1, 3]]) 9 (by simp; omega) (by omega)
  obtain ⟨w26, hw26⟩ : ∃ w26, w26 = w25.alloc (.cells #[.slice A6 n6 c6, .slice A25 n25 c25] 22) := ⟨_, rfl⟩
  have hbw26 : Below w25.heap.size w25 w26 := by rw [hw26]; exact (Below.refl _ w25).alloc (Nat.le_refl _) _
  have hsw26 : w26.heap.size = w25.heap.size + 1 := by rw [hw26]; simp
  have hX26 : XS w26 w25.heap.size (.slice (some ⟨w25.heap.size, 0, none⟩) 2 2) [(.slice A6 n6 c6, al), (.slice A25 n25 c25, Der.write 3 ([0] ++ Ref.seq [[2, 1, 5], [2, 1, 3]]))] := by
    rw [hw26]
    refine XS.lit w25 [(.slice A6 n6 c6, al), (.slice A25 n25 c25, Der.write 3 ([0] ++ Ref.seq [[2, 1, 5], [2, 1, 3]]))] _ _ 2 rfl rfl rfl (by omega) (fun p hp => ?_)
    simp only [List.mem_cons, List.not_mem_nil, or_false] at hp
    rcases hp with rfl | rfl
    · exact H18.out.2.2.2.2.1.below hb1825
    · exact RdT.own (ho25.mono (Nat.le_refl _) (Nat.le_refl _))
  obtain ⟨Ax6, cx6, ex6, hrdl6⟩ := hX26.rdl
  injection ex6 with ex61 ex62 ex63
  subst ex61 ex63
  clear ex62
  have hb1826 := hb1825.trans (hbw26.mono hb1825.size)
  have HR26 := Lib.hid (And.intro hrdl6 (And.intro hb1826 hl25))
  clear hrdl6 hX26 ho24 hg24 hor24 hb24 hr24 hl24 ho25 hb25 hb1825 hb1826 hbw26 hsw26 HR23 hs23 hl23 hn23 hl25
  go_wp2_with fail
  rw [← hw26]
  clear hw26
  refine (refSeq_any _ _ _ _ w26 HR26.out.1 (by simp) (by unfold cat; have := HR26.out.2.2; simp only [List.map_cons, List.map_nil, List.flatten_cons, List.flatten_nil, List.append_nil, List.length_append] at this ⊢; omega)).mono ?_
  rintro en w27 ⟨A27, n27, c27, rfl, ho27, hb27⟩
  dsimp only
  have ho27 : OwnB w27 w26.heap.size w27.heap.size (.slice A27 n27 c27) (Ref.seq [al, Der.write 3 ([0] ++ Ref.seq [[2, 1, 5], [2, 1, 3]])]) := ho27
  have hG := HR26.out.2.1.trans (hb27.mono HR26.out.2.1.size)
  have H27 := Lib.hid (And.intro (H18.out.1.below hG H18.out.1.lt) (And.intro (H18.out.2.1.up hG) (And.intro (H18.out.2.2.1.trans (hG.mono H18.out.2.2.1.size)) (And.intro (H18.out.2.2.2.1.below hG) (And.intro (H18.out.2.2.2.2.1.below hG) (H18.out.2.2.2.2.2.below hG))))))
  obtain ⟨ky, hky⟩ : ∃ ky, ky = Ref.seq [al, Der.write 3 ([0] ++ Ref.seq [[2, 1, 5], [2, 1, 3]])] := ⟨_, rfl⟩
  rw [← hky] at ho27
  have hkl : ky.length ≤ 1000 := by
    rw [hky]
    refine Nat.le_trans (write_lt 48 _ 400 ?_ (by omega)) (by omega)
    have := HR26.out.2.2
    simp only [List.flatten_cons, List.flatten_nil, List.append_nil, List.length_append] at this ⊢
    omega
  have hrk : RdT w27 (.slice A27 n27 c27) ky := RdT.own (ho27.mono (Nat.le_refl _) (Nat.le_refl _))
  have hP3 := hPE.out.2.2
  rw [← hky] at hP3
  have HPT := Lib.hid (And.intro (show Calls Try.prog 34 #[k.val (.slice A0 n0 c0) (.slice A1 n1 c1) (.slice A2 n2 c2), .int .i64 6, .slice A27 n27 c27] w27 (RetOwn (Ref.wr (Ref.seq ((k.els.map (·.2.2)).set 6 ky)) (k.sig.take 100)) w27) from put_any k A0 A1 A2 n0 c0 n1 c1 n2 c2 w27 H27.out.2.1 6 (by omega) A27 n27 c27 ky hrk (by omega)) hP3)
  clear hky hkl hrk ho27 hG hb27 hP3 HR26 H18 hPE hL7
  go_upto_region 12 with (first
    | ((with_reducible refine at_load_case ?_); refine wpList_load_case rfl _ rfl w.heap.size k (.slice A0 n0 c0) (.slice A1 n1 c1) (.slice A2 n2 c2) rfl H27.out.1 ?_)
    | (go_at_call 34; refine HPT.out.1.mono ?_; rintro en w28 ⟨A28, n28, c28, rfl, ho28, hb28⟩)
    | (go_at_call 16; refine (parse_pc A28 n28 c28 _ w28 (ho28.mono (Nat.le_refl _) (Nat.le_refl _)).rdx).mono ?_; rintro en w29 ⟨hb29, C3, rfl, hPc3⟩; have hone := hPc3.one)
    | ((with_reducible refine at_store_cert ?_); refine wpList_store_cert rfl _ _ rfl w29.heap.size CV.zero C3 rfl rfl (Blk.new w29 _ _) hone ?_; intro w30 hB30 hg30)
    | fail)
  have hg3 : Below w29.heap.size w29 w30 := below_grow ((Below.refl _ w29).alloc (Nat.le_refl _) _) hg30 (Nat.le_refl _) (Nat.le_refl _)
  have hG : Below w27.heap.size w27 w30 := (hb28.trans (hb29.mono hb28.size)).trans (hg3.mono (by have := hb28.size; have := hb29.size; omega))
  have hPc := hPc3.rn hg3
  have H30 := Lib.hid (And.intro (H27.out.1.below hG H27.out.1.lt) (And.intro (H27.out.2.1.up hG) (And.intro (H27.out.2.2.1.trans (hG.mono H27.out.2.2.1.size)) (And.intro (H27.out.2.2.2.1.below hG) (And.intro (H27.out.2.2.2.2.1.below hG) (H27.out.2.2.2.2.2.below hG))))))
  obtain ⟨g29, hg29⟩ : ∃ g, g = w29.heap.size := ⟨_, rfl⟩
  rw [← hg29] at hB30 ⊢
  obtain ⟨Ab2, nb2, cb2, eb2, hrb2, _⟩ := H30.out.2.2.2.1
  injection eb2 with eb21 eb22 eb23
  subst eb21 eb22 eb23
  have ks1 := run_string hrb2 9 Try.underlying9
  have hlit := Rd.lit w30 5 X.keyOid [.int .u8 42, .int .u8 134, .int .u8 72, .int .u8 134, .int .u8 247, .int .u8 13, .int .u8 1, .int .u8 1, .int .u8 1] _ 9 rfl rfl rfl (by omega)
  have ks2 := run_string hlit 9 Try.underlying9
  obtain ⟨w31, hw31⟩ : ∃ w31, w31 = w30.alloc (.cells #[.int .u8 42, .int .u8 134, .int .u8 72, .int .u8 134, .int .u8 247, .int .u8 13, .int .u8 1, .int .u8 1, .int .u8 1] 5) := ⟨_, rfl⟩
  have hb3031 : Below w30.heap.size w30 w31 := by rw [hw31]; exact (Below.refl _ w30).alloc (Nat.le_refl _) _
  have hb31 := H30.out.2.2.1.trans (hb3031.mono H30.out.2.2.1.size)
  have hB31 := hB30.below hb3031 hB30.lt
  have H31 := Lib.hid (And.intro hb31 (And.intro hB31 (And.intro (hPc.rn hb3031) HPT.out.2)))
  clear hg29 hg3 hG hone hPc3 hPc hB30 hg30 hb28 hb29 ho28 HPT H27 H30 hlit hrb2 hb3031 hb31 hB31
  go_upto_region 13 with fail
  rw [← hw31]
  clear hw31 ks1 ks2
  rcases H31.out.2.2.2 with ⟨hk, s, hs, hn5, he3⟩ | ⟨hk, hs⟩
  · have hPq := H31.out.2.2.1
    rw [hs] at hPq ⊢
    obtain ⟨_, _, hee, _, hci⟩ := hPq.out
    obtain ⟨An, nn, cn, en5, hrn, _⟩ := hci.n
    rw [hn5] at hrn
    have hn1 := hrn.len
    obtain rfl : nn = 1 := by simpa using hn1.symm
    rw [he3] at hee
    have k17 : w31.cell? ⟨g29, 17, none⟩ = some (.slice An 1 cn) := (H31.out.2.1.at_ 17).trans (by rw [← en5]; rfl)
    have k18 : w31.cell? ⟨g29, 18, none⟩ = some (.int .u64 3) := (H31.out.2.1.at_ 18).trans (by
      have : C3.cells[18]? = some (.int .u64 (C3.e : Int)) := rfl
      rw [this, hee]; rfl)
    have HW := Lib.hid H31.out.1
    have hkd : ([42, 3] == X.keyOid) = true := by rw [beq_iff_eq]; exact hk
    rw [hkd]
    have e0 : (((Cert.Ans.yes s (k.sig.take 100)).err : Nat) : Int) = 0 := rfl
    rw [e0]
    clear hk hs hn5 he3 hPq hee hci en5 hrn hn1 H31 hkd
    have her := hER.out
    clear hER
    cases sg
    · rw [if_neg (by simp)] at her
      subst her
      go_wp2_with fail
      refine (works12_any _).mono ?_
      rintro e wz ⟨rfl, hbz⟩
      go_wp2
      go_ret
      exact ⟨rfl, HW.out.trans (hbz.mono HW.out.size)⟩
    · rw [if_pos rfl] at her
      subst her
      go_wp2_with fail
      refine (works12_any _).mono ?_
      rintro e wz ⟨rfl, hbz⟩
      go_wp2
      go_ret
      exact ⟨rfl, HW.out.trans (hbz.mono HW.out.size)⟩
  · rw [hs]
    have HW := Lib.hid H31.out.1
    have hkd : ([42, 3] == X.keyOid) = false := by rw [beq_eq_false_iff_ne]; exact hk
    rw [hkd]
    have e0 : (((Cert.Ans.no 9).err : Nat) : Int) = 9 := rfl
    rw [e0]
    clear hk hs H31 hkd
    have her := hER.out
    clear hER
    cases sg
    · rw [if_neg (by simp)] at her
      subst her
      go_wp2_with fail
      refine (works12_any _).mono ?_
      rintro e wz ⟨rfl, hbz⟩
      go_wp2
      go_ret
      exact ⟨rfl, HW.out.trans (hbz.mono HW.out.size)⟩
    · rw [if_pos rfl] at her
      subst her
      go_wp2_with fail
      refine (works12_any _).mono ?_
      rintro e wz ⟨rfl, hbz⟩
      go_wp2
      go_ret
      exact ⟨rfl, HW.out.trans (hbz.mono HW.out.size)⟩
theorem certMethods_walk (w : World) (k : Kase) (A0 A1 A2 : Option Addr) (n0 c0 n1 c1 n2 c2 : Nat) (hk : k.come w A0 A1 A2 n0 c0 n1 c1 n2 c2) (A3 : Option Addr) (n3 c3 : Nat) (zs : List Nat) (h3 : RdU w w.heap.size A3 n3 c3 zs) :
    Calls Try.prog 11 #[k.val (.slice A0 n0 c0) (.slice A1 n1 c1) (.slice A2 n2 c2), .slice A3 n3 c3] w fun e w' => e = .returned (.bool true) ∧ Below w.heap.size w w' := by
  by_cases h0 : (Der.putOid zs).length = 0
  · exact methods_zero k A0 A1 A2 n0 c0 n1 c1 n2 c2 A3 n3 c3 zs w hk h3 h0
  by_cases h1 : 300 < (Der.putOid zs).length
  · exact methods_long k A0 A1 A2 n0 c0 n1 c1 n2 c2 A3 n3 c3 zs w hk h3 h1
  · exact methods_own k A0 A1 A2 n0 c0 n1 c1 n2 c2 A3 n3 c3 zs w hk h3 ⟨h0, h1⟩
end Go.Proofs.Ytmnekhliblkibaa
