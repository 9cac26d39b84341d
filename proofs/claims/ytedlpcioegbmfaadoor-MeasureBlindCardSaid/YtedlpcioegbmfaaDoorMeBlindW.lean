/- The walk of the law MeasureBlind. -/
import Derived.Test.YtedlpcioegbmfaaDoorMeWorks
import Derived.Test.YtedlpcioegbmfaaDoorMeRow
import Derived.Test.YtedlpcioegbmfaaDoorMePlain2
namespace Go.Proofs.YtedlpcioegbmfaaDoor
open Go.RowKit
set_option maxRecDepth 100000
set_option linter.unusedVariables false
set_option linter.unusedSimpArgs false
set_option maxHeartbeats 8000000 in
theorem measureBlind_walk (w : World) (V : ShV) (s : Pe.Shape) (h : ShRd w w.heap.size V s) (a1 : Int) (h1 : (Lit.int .u32 a1).wf = true) (As : Option Addr) (ns cs : Nat) (L : List (Value × List UInt8)) (hL : RdL w w.heap.size As ns cs L) :
    Calls Tryd.prog 3 #[.agg V.cells, .int .u32 a1, .slice As ns cs] w fun e w' => e = .returned (.bool true) ∧ Below w.heap.size w w' := by
  obtain ⟨kk, rfl, hkk⟩ : ∃ m : Nat, a1 = (m : Int) ∧ m < 4294967296 := by
    have e1 : IntKind.u32.min = 0 := rfl
    have e2 : IntKind.u32.max = 4294967295 := rfl
    simp only [Lit.wf, Bool.and_eq_true, decide_eq_true_eq] at h1
    exact ⟨a1.toNat, by omega, by omega⟩
  have HL := Lib.hid hL
  have hLn := hL.len
  clear h1 hL
  have hB0 : Bs (w.alloc (.cells V.cells 26)) w.heap.size V := Blk.new _ _ _
  have hbw0 : Below w.heap.size w (w.alloc (.cells V.cells 26)) := below_one w _
  have hr0 : ShRd (w.alloc (.cells V.cells 26)) (w.alloc (.cells V.cells 26)).heap.size V s := (h.below hbw0).more (by simp)
  obtain ⟨W0, hW0⟩ : ∃ W0, w.alloc (.cells V.cells 26) = W0 := ⟨_, rfl⟩
  rw [hW0] at hB0 hbw0 hr0
  have H := Lib.hid (And.intro hB0 (And.intro hr0 (And.intro hbw0 hW0)))
  clear h hB0 hr0 hbw0 hW0
  go_enter Tryd.func3, Tryd.ntmps3
  go_upto_region 1 with fail
  rw [H.out.2.2.2]
  go_wp2_with (first
    | ((with_reducible refine at_load_sh ?_); refine wpList_load_sh rfl _ rfl w.heap.size V rfl H.out.1 ?_)
    | fail)
  refine (brought_any V s W0 H.out.2.1).mono ?_
  rintro e w1 ⟨V1, rfl, hr1, hb1⟩
  have ho := Pe.brought_ok s
  have h8 := Pe.brought_sigs s
  have hol := Pe.order_len s
  obtain ⟨S, hS⟩ : ∃ S, Pe.brought s = S := ⟨_, rfl⟩
  rw [hS] at hr1 ho h8 hol
  have hread := Pe.Shape.write_read ho
  obtain ⟨he0, hi0⟩ := Pe.read_err hread ho h8
  have hsm := S.write_small ho
  obtain ⟨b, hb⟩ : ∃ b, Pe.write S = b := ⟨_, rfl⟩
  rw [hb] at hread he0 hi0 hsm
  have HN := Lib.hid (And.intro ho (And.intro hread (And.intro he0 (And.intro hi0 (And.intro hb (And.intro hol (And.intro hS h8)))))))
  clear ho hread he0 hi0 hb hol hS h8
  have hbw1 := H.out.2.2.1.trans (hb1.mono H.out.2.2.1.size)
  have H1 := Lib.hid (And.intro hr1 (And.intro hbw1 hr1.one))
  clear hr1 hb1 hbw1
  go_upto_region 2 with (first
    | ((with_reducible refine at_store_sh ?_); refine wpList_store_sh rfl _ _ rfl w1.heap.size ShV.zero V1 rfl rfl (Blk.new w1 _ _) H1.out.2.2 ?_; intro w2 hB2 hg2)
    | fail)
  have hb12 : Below w1.heap.size w1 w2 := (below_one w1 _).grown hg2 (by simp) (fun k e => by injection e with e; omega)
  have hr2 : ShRd w2 w2.heap.size V1 S := (H1.out.1.below hb12).more hb12.size
  have hbw2 := H1.out.2.1.trans (hb12.mono H1.out.2.1.size)
  have hx2 : w1.heap.size < w2.heap.size := hB2.lt
  obtain ⟨xb, hxb⟩ : ∃ xb, w1.heap.size = xb := ⟨_, rfl⟩
  rw [hxb] at hB2 hx2 ⊢
  have H2 := Lib.hid (And.intro hB2 (And.intro hr2 hbw2))
  clear hB2 hg2 hb12 hr2 hbw2 H1 hxb
  obtain ⟨A6, n6, c6, l6, e6, r6, hl6⟩ := H2.out.2.1.sigs
  have hn6 : S.sigs.length = n6 := by rw [← hl6, List.length_map]; exact r6.len
  have x6 : w2.cell? ⟨xb, 6, none⟩ = some (.slice A6 n6 c6) := (H2.out.1.cell 6).trans (by rw [← e6]; rfl)
  clear r6 hl6 e6
  by_cases h0 : n6 = 0
  · have h0' : ((n6 : Int) == 0) = true := by simp [h0]
    clear h0 hn6
    go_wp2_with fail
    refine (meWorks_any w2).mono ?_
    rintro e wz ⟨rfl, hbwz⟩
    have Hwz := Lib.hid (H2.out.2.2.trans (hbwz.mono H2.out.2.2.size))
    clear hbwz
    go_wp2_with fail
    go_ret
    exact ⟨rfl, Hwz.out⟩
  · have h0' : ((n6 : Int) == 0) = false := by simp; omega
    have hs : S.sigs ≠ [] := fun e => h0 (by rw [← hn6, e]; rfl)
    have HS := Lib.hid (And.intro hs hn6)
    clear hs hn6
    by_cases hn0 : ns = 0
    · have hn0' : ((ns : Int) == 0) = true := by simp [hn0]
      have HZ := Lib.hid (And.intro hn0 hLn)
      clear hn0 hLn
      go_wp2_with fail
      refine (meWorks_any w2).mono ?_
      rintro e wz ⟨rfl, hbwz⟩
      have Hwz := Lib.hid (H2.out.2.2.trans (hbwz.mono H2.out.2.2.size))
      clear hbwz
      go_wp2_with fail
      go_ret
      exact ⟨rfl, Hwz.out⟩
    · have hn0' : ((ns : Int) == 0) = false := by simp; omega
      have hsg : L.map (·.2) ≠ [] := fun e => hn0 (by rw [← hLn]; exact List.length_eq_zero_iff.2 (List.map_eq_nil_iff.1 e))
      have HZ := Lib.hid (And.intro hsg hLn)
      clear hsg hLn
      have hL2 : RdL w2 w2.heap.size As ns cs L := (HL.out.keep fun p hp => H2.out.2.2.cell hp).more H2.out.2.2.size
      have hsh0 : ShRd w2 w2.heap.size ⟨false, .slice none 0 0, .slice none 0 0, .slice none 0 0, .slice none 0 0, .slice none 0 0, .slice As ns cs⟩ { plus := false, stub := [], fill := [], bodies := [], order := [], behind := [], sigs := L.map (·.2) } :=
        ⟨rfl, rdv_nil _ _, rdv_nil _ _, ⟨none, 0, 0, [], rfl, ⟨rfl, Nat.le_refl _, by omega, Reads.none_, fun v xs h => by cases h⟩, rfl⟩, ⟨none, 0, 0, rfl, ⟨rfl, Nat.le_refl _, by omega, fun h => absurd h (by omega), Reads.none_⟩⟩, rdv_nil _ _, ⟨As, ns, cs, L, rfl, hL2, rfl⟩⟩
      have HS0 := Lib.hid hsh0
      clear hL2 hsh0
      go_wp2_with fail
      refine (brought_any _ _ w2 HS0.out).mono ?_
      rintro e w4 ⟨V2, rfl, hr4, hb4⟩
      obtain ⟨Y, hY⟩ : ∃ Y, Pe.brought { plus := false, stub := [], fill := [], bodies := [], order := [], behind := [], sigs := L.map (·.2) } = Y := ⟨_, rfl⟩
      have hYo : Y.Ok := by rw [← hY]; exact Pe.brought_ok _
      have hY8 : Y.sigs.length ≤ 8 := by rw [← hY]; exact Pe.brought_sigs _
      have hYs : Y.sigs ≠ [] := by
        rw [← hY]
        intro e
        refine HZ.out.1 ?_
        have h1 := congrArg List.length e
        simp [Pe.brought] at h1
        rw [h1]
        rfl
      rw [hY] at hr4
      have H4 := Lib.hid (And.intro hr4 (And.intro hb4 (And.intro hr4.one (And.intro hYo (And.intro hY8 hYs)))))
      clear hr4 hb4 hY hYo hY8 hYs
      go_upto_region 5 with (first
        | ((with_reducible refine at_store_sh ?_); refine wpList_store_sh rfl _ _ rfl w4.heap.size ShV.zero V2 rfl rfl (Blk.new w4 _ _) H4.out.2.2.1 ?_; intro w5 hB5 hg5)
        | fail)
      have hb45 : Below w4.heap.size w4 w5 := (below_one w4 _).grown hg5 (by simp) (fun k e => by injection e with e; omega)
      have hb25 : Below w2.heap.size w2 w5 := H4.out.2.1.trans (hb45.mono H4.out.2.1.size)
      have hB5x : Bs w5 xb V1 := H2.out.1.below hb25 H2.out.1.lt
      have hne : xb ≠ w4.heap.size := by have := H2.out.1.lt; have := H4.out.2.1.size; omega
      have hy5 : w4.heap.size < w5.heap.size := hB5.lt
      have hx5 : xb < w5.heap.size := hB5x.lt
      have hw25 : w2.heap.size ≤ w4.heap.size := H4.out.2.1.size
      obtain ⟨yb, hyb⟩ : ∃ g, w4.heap.size = g := ⟨_, rfl⟩
      have HX5 := Lib.hid (And.intro hb45 hyb)
      rw [hyb] at hB5 hne hy5 hw25 ⊢
      have hsh5 := (H2.out.2.1.below hb25).more hb25.size
      have hsy5 := (H4.out.1.below hb45).more hb45.size
      have H5 := Lib.hid (And.intro hB5 (And.intro hB5x (And.intro hsh5 (And.intro hsy5 (And.intro hb25 (H2.out.2.2.trans (hb25.mono H2.out.2.2.size)))))))
      clear hB5 hg5 hb45 hb25 hB5x hyb hsh5 hsy5
      obtain ⟨A1, n1, c1, e1, _⟩ := H5.out.2.2.1.stub
      obtain ⟨A2, n2, c2, e2, _⟩ := H5.out.2.2.1.fill
      obtain ⟨A3, n3, c3, l3, e3, _⟩ := H5.out.2.2.1.bodies
      obtain ⟨A4, n4, c4, e4, _⟩ := H5.out.2.2.1.order
      obtain ⟨A5, n5, c5, e5, _⟩ := H5.out.2.2.1.behind
      obtain ⟨pl, epl⟩ : ∃ p, V1.plus = p := ⟨_, rfl⟩
      obtain ⟨B6, m6, d6, k6, f6, rf6, hk6⟩ := H5.out.2.2.2.1.sigs
      have hm6 : Y.sigs.length = m6 := by rw [← hk6, List.length_map]; exact rf6.len
      have q0 : w5.cell? ⟨xb, 0, none⟩ = some (.bool pl) := (H5.out.2.1.cell 0).trans (by rw [← epl]; rfl)
      have q1 : w5.cell? ⟨xb, 1, none⟩ = some (.slice A1 n1 c1) := (H5.out.2.1.cell 1).trans (by rw [← e1]; rfl)
      have q2 : w5.cell? ⟨xb, 2, none⟩ = some (.slice A2 n2 c2) := (H5.out.2.1.cell 2).trans (by rw [← e2]; rfl)
      have q3 : w5.cell? ⟨xb, 3, none⟩ = some (.slice A3 n3 c3) := (H5.out.2.1.cell 3).trans (by rw [← e3]; rfl)
      have q4 : w5.cell? ⟨xb, 4, none⟩ = some (.slice A4 n4 c4) := (H5.out.2.1.cell 4).trans (by rw [← e4]; rfl)
      have q5 : w5.cell? ⟨xb, 5, none⟩ = some (.slice A5 n5 c5) := (H5.out.2.1.cell 5).trans (by rw [← e5]; rfl)
      have p0 := H5.out.1.cell 0
      have f0 := H5.out.1.frozen 0
      have p1 := H5.out.1.cell 1
      have f1 := H5.out.1.frozen 1
      have p2 := H5.out.1.cell 2
      have f2 := H5.out.1.frozen 2
      have p3 := H5.out.1.cell 3
      have f3 := H5.out.1.frozen 3
      have p4 := H5.out.1.cell 4
      have f4 := H5.out.1.frozen 4
      have p5 := H5.out.1.cell 5
      have f5 := H5.out.1.frozen 5
      have HE := Lib.hid (And.intro e1 (And.intro e2 (And.intro e3 (And.intro e4 (And.intro e5 (And.intro epl (And.intro f6 hm6)))))))
      clear e1 e2 e3 e4 e5 epl f6 hm6 rf6 hk6
      go_upto_region 11 with fail
      have hg6 : w5.grownBy ((((((w5.setCell ⟨yb, 0, none⟩ (.bool pl)).setCell ⟨yb, 1, none⟩ (.slice A1 n1 c1)).setCell ⟨yb, 2, none⟩ (.slice A2 n2 c2)).setCell ⟨yb, 3, none⟩ (.slice A3 n3 c3)).setCell ⟨yb, 4, none⟩ (.slice A4 n4 c4)).setCell ⟨yb, 5, none⟩ (.slice A5 n5 c5)) (some yb) :=
        grownBy_store (grownBy_store (grownBy_store (grownBy_store (grownBy_store (grownBy_set w5 ⟨yb, 0, none⟩ _) _ _) _ _) _ _) _ _) _ _
      have hB6 := (((((H5.out.1.set_ 0 (.bool pl)).set_ 1 (.slice A1 n1 c1)).set_ 2 (.slice A2 n2 c2)).set_ 3 (.slice A3 n3 c3)).set_ 4 (.slice A4 n4 c4)).set_ 5 (.slice A5 n5 c5)
      obtain ⟨w6, hw6⟩ : ∃ x, (((((w5.setCell ⟨yb, 0, none⟩ (.bool pl)).setCell ⟨yb, 1, none⟩ (.slice A1 n1 c1)).setCell ⟨yb, 2, none⟩ (.slice A2 n2 c2)).setCell ⟨yb, 3, none⟩ (.slice A3 n3 c3)).setCell ⟨yb, 4, none⟩ (.slice A4 n4 c4)).setCell ⟨yb, 5, none⟩ (.slice A5 n5 c5) = x := ⟨_, rfl⟩
      rw [hw6] at hg6 hB6 ⊢
      have hB6' : Bs w6 yb { V1 with sigs := V2.sigs } := by
        have e : ({ V1 with sigs := V2.sigs } : ShV).cells = (((((V2.cells.setIfInBounds 0 (.bool pl)).setIfInBounds 1 (.slice A1 n1 c1)).setIfInBounds 2 (.slice A2 n2 c2)).setIfInBounds 3 (.slice A3 n3 c3)).setIfInBounds 4 (.slice A4 n4 c4)).setIfInBounds 5 (.slice A5 n5 c5) := by
          rw [← HE.out.1, ← HE.out.2.1, ← HE.out.2.2.1, ← HE.out.2.2.2.1, ← HE.out.2.2.2.2.1, ← HE.out.2.2.2.2.2.1]
          rfl
        unfold Bs
        rw [e]
        exact hB6
      have hb26 : Below w2.heap.size w2 w6 := H5.out.2.2.2.2.1.grown hg6 H5.out.2.2.2.2.1.size (fun k e => by injection e with e; omega)
      have hsY := H4.out.1
      have hb46 : Below w4.heap.size w4 w6 := HX5.out.1.grown hg6 HX5.out.1.size (fun k e => by injection e with e; have := HX5.out.2; omega)
      have hb06 : Below w.heap.size w w6 := H2.out.2.2.trans (hb26.mono H2.out.2.2.size)
      have hB6x : Bs w6 xb V1 := H2.out.1.below hb26 H2.out.1.lt
      have hshX := (H2.out.2.1.below hb26).more hb26.size
      have hshY := (H4.out.1.below hb46).more hb46.size
      have hshZ : ShRd w6 w6.heap.size { V1 with sigs := V2.sigs } (S.resign Y.sigs) := ⟨hshX.plus, hshX.stub, hshX.fill, hshX.bodies, hshX.order, hshX.behind, hshY.sigs⟩
      have hzo := Pe.resign_ok HN.out.1 H4.out.2.2.2.1
      have hbl := Pe.blind HN.out.1 H4.out.2.2.2.1 HN.out.2.2.2.2.2.2.2 H4.out.2.2.2.2.1 HS.out.1 H4.out.2.2.2.2.2 kk
      have hzl := (S.resign Y.sigs).write_small hzo
      have hzr := Pe.Shape.write_read hzo
      obtain ⟨Z, hZ⟩ : ∃ Z, S.resign Y.sigs = Z := ⟨_, rfl⟩
      rw [hZ] at hshZ hzo hbl hzl hzr
      have H10 := Lib.hid hZ
      have hzopt : Z.opt = S.opt := by rw [← hZ]; rfl
      have hzord : Z.order.length ≤ 1000 := by rw [← hZ]; exact HN.out.2.2.2.2.2.1
      have H6 := Lib.hid (And.intro hB6' (And.intro hB6x (And.intro hshX (And.intro hshZ (And.intro hb06 (And.intro hzo (And.intro hbl (And.intro hzr (And.intro hzord hzopt)))))))))
      clear hg6 hB6 hB6' hb26 hsY hb46 hb06 hB6x hshX hshY hshZ hzo hbl hzr hzord hzopt hZ hw6 q0 q1 q2 q3 q4 q5 p0 p1 p2 p3 p4 p5 f0 f1 f2 f3 f4 f5
      go_wp2_with (first
        | ((with_reducible refine at_load_sh ?_); refine wpList_load_sh rfl _ rfl xb V1 rfl H6.out.2.1 ?_)
        | fail)
      refine (write_any V1 S w6 H6.out.2.2.1 HN.out.1 HN.out.2.2.2.2.2.1).mono ?_
      rw [HN.out.2.2.2.2.1]
      rintro e w7 ⟨Aa, na, ca, rfl, hoa, hba⟩
      obtain ⟨_, _, _, ea, hra⟩ := hoa.rd
      injection ea with ea1 ea2 ea3
      subst ea1 ea2 ea3
      have hla := hra.len
      have hsh7 := (H6.out.2.2.2.1.below hba).more hba.size
      have hB7 := H6.out.1.below hba H6.out.1.lt
      have H7 := Lib.hid (And.intro hra (And.intro hsh7 (And.intro hB7 (H6.out.2.2.2.2.1.trans (hba.mono H6.out.2.2.2.2.1.size)))))
      clear hoa hba hra hsh7 hB7
      go_wp2_with (first
        | ((with_reducible refine at_load_sh ?_); refine wpList_load_sh rfl _ rfl yb { V1 with sigs := V2.sigs } rfl H7.out.2.2.1 ?_)
        | fail)
      refine (write_any { V1 with sigs := V2.sigs } Z w7 H7.out.2.1 H6.out.2.2.2.2.2.1 H6.out.2.2.2.2.2.2.2.2.1).mono ?_
      rintro e w8 ⟨Ab, nb, cb, rfl, hob, hbb⟩
      obtain ⟨_, _, _, eb, hrb⟩ := hob.rd
      injection eb with eb1 eb2 eb3
      subst eb1 eb2 eb3
      have hlb := hrb.len
      have hbw8 := H7.out.2.2.2.trans (hbb.mono H7.out.2.2.2.size)
      have hra8 := (H7.out.1.below hbb).more hbb.size
      have hB8 := H7.out.2.2.1.below hbb H7.out.2.2.1.lt
      have H8 := Lib.hid (And.intro hob (And.intro hbw8 (And.intro hra8 (And.intro hB8 hbb))))
      clear hob hbb hrb hbw8 hra8 hB8
      have hna : na ≤ 16777216 := by omega
      have hnb : nb ≤ 16777216 := by omega
      go_wp2_with fail
      refine (digest_any Aa na ca b w8 H8.out.2.2.1 hna).mono ?_
      rintro e w9a ⟨hbw9a, T, C, e2, rfl, hST, herT, hlT, honeC, hzC, hokC⟩
      have ET := Lib.hid (And.intro hbw9a (And.intro hST (And.intro herT (And.intro hlT (And.intro honeC (And.intro hzC hokC))))))
      clear hbw9a hST herT hlT honeC hzC hokC
      go_upto_region 14 with (first
        | ((with_reducible refine at_store_t 31 ?_); refine wpList_store_b32 rfl _ _ rfl w9a.heap.size z32 T rfl ET.out.2.2.2.1 rfl rfl (dW_b w9a) ?_; intro w9b hBw9b hgw9b)
        | ((with_reducible refine at_store_img ?_); refine wpList_store_img rfl _ _ rfl (w9a.heap.size + 1) IV.zero C rfl rfl ((dW_i w9a).grown hgw9b (fun e => by injection e with e; omega)) ET.out.2.2.2.2.1 ?_; intro w9 hBw9 hgw9)
        | fail)
      have Dw9 := digAt (xs := b) ET.out.1 hgw9b hBw9b hgw9 hBw9
      have Iw9 : e2 = 0 → ImgOwn b C w8.heap.size w9 := fun h => (ET.out.2.2.2.2.2.2 h).later (digBelow hgw9b hgw9)
      obtain ⟨db, hdb⟩ : ∃ g, w9a.heap.size = g := ⟨_, rfl⟩
      rw [hdb] at Dw9 ⊢
      have DT := Lib.hid (And.intro Dw9 Iw9)
      clear hBw9b hgw9b hBw9 hgw9 Dw9 hdb Iw9
      obtain rfl : e2 = 0 := ET.out.2.2.1.symm.trans HN.out.2.2.1
      have hckC := (DT.out.2 rfl).nums.2.1
      rw [(Pe.Read.places HN.out.2.1 HN.out.1).1] at hckC
      obtain ⟨ck, hck⟩ : ∃ x, S.opt + 64 = x := ⟨_, rfl⟩
      rw [hck] at hckC
      have hbl := H6.out.2.2.2.2.2.2.1
      rw [hck] at hbl
      have hck4 : ck + 4 ≤ nb ∧ 64 ≤ ck := by
        have h1 := H6.out.2.2.2.2.2.2.2.1.made.fits
        obtain ⟨z1, z2, z3, z4, z5⟩ := Z.sizes_
        have h2 := H6.out.2.2.2.2.2.2.2.2.2
        omega
      obtain ⟨gb, capb, e, hlob, _⟩ := H8.out.1.1.form (by omega)
      injection e with e1 e2 e3
      clear e2
      subst e1 e3
      have hB9 := DT.out.1.below
      have hob9 : OwnB w9 w7.heap.size w8.heap.size (.slice (some ⟨gb, 0, none⟩) nb cb) (Pe.write Z) := H8.out.1.below hB9 (Nat.le_refl _)
      have hgb := H8.out.1.1.lt gb rfl
      have hB89 := H8.out.2.2.2.1.below hB9 H8.out.2.2.2.1.lt
      have hs79 : w7.heap.size ≤ w8.heap.size ∧ w8.heap.size ≤ w9.heap.size := ⟨H8.out.2.2.2.2.size, hB9.size⟩
      have hyb7 : yb < w7.heap.size := H7.out.2.2.1.lt
      have k1 : w9.cell? ⟨db + 1, 1, none⟩ = some (.int .i64 (ck : Int)) := by rw [← hckC]; exact DT.out.1.img.cell 1
      have h64 : ¬ ((ck : Int) < 64) := by omega
      have h4 : ¬ ((nb : Int) < (ck : Int) + 4) := by omega
      have j4 : IntKind.i64.wrap ((ck : Int) + 4) = (ck : Int) + 4 := by rw [IntKind.wrap_i64]; omega
      have H9 := Lib.hid (And.intro hob9 (And.intro hB89 (And.intro hbl (And.intro hck hckC))))
      have hdb : w8.heap.size ≤ db := DT.out.1.lg
      clear hob9 hB89 hbl hck hckC hB9
      go_wp2_with fail
      go_loopw [14] (fun i wr => ∃ j : Nat, j ≤ 4 ∧ i = .int .i64 (j : Int) ∧ OwnB wr w7.heap.size w8.heap.size (.slice (some ⟨gb, 0, none⟩) nb cb) (Pe.putTo (Pe.write Z) ck (Pe.leN 4 kk) j) ∧ w9.grownBy wr (some gb)) (fun i _ => 4 - (intOf i).toNat)
      case atStart => exact ⟨0, by omega, rfl, by rw [Pe.putTo_zero]; exact H9.out.1, grown_refl _ _⟩
      case round =>
        obtain ⟨j, hj, rfl, ho, hgr⟩ := hrel
        clear k1
        have hBr := DT.out.1.img.grown hgr (fun e => by injection e with e; omega)
        have k1 : wr.cell? ⟨db + 1, 1, none⟩ = some (.int .i64 (ck : Int)) := by rw [← H9.out.2.2.2.2]; exact hBr.cell 1
        by_cases hlt : j < 4
        · have hlt' : (j : Int) < 4 := by omega
          have hlen := Pe.putTo_len (Pe.write Z) ck (Pe.leN 4 kk) j (by omega) (by rw [Pe.leN_len]; omega)
          obtain ⟨u, hu⟩ : ∃ u, (Pe.leN 4 kk)[j]? = some u := ⟨_, List.getElem?_eq_getElem (by rw [Pe.leN_len]; exact hlt)⟩
          obtain ⟨z, hz, hcz⟩ := ho.cellAt (hlen.trans hlb) (j := ck + j) (by omega)
          have hfz := ho.frozenAt (hlen.trans hlb) (ck + j)
          have hset := ho.stored (hlen.trans hlb) (ck + j) u
          rw [Pe.putTo_set (Pe.write Z) ck _ j u (by omega) hu] at hset
          have hpj : ((ck : Int) + (j : Int)).toNat = ck + j := by omega
          have hpn : (ck : Int) + j < nb := by omega
          have hp0 : (0 : Int) ≤ (ck : Int) + j := by omega
          have j5 : IntKind.i64.wrap ((ck : Int) + j) = (ck : Int) + j := by rw [IntKind.wrap_i64]; omega
          have HS := Lib.hid (And.intro hset (And.intro hgr hu))
          clear ho hset hgr hlen hu hz hBr
          go_wp2_with fail
          have hval : ((u.toNat : Nat) : Int) = (kk : Int) / 2 ^ (8 * j) % 256 := by
            rw [Pe.leN_get _ _ _ _ HS.out.2.2]
            push_cast
            rfl
          refine ⟨⟨j + 1, by omega, by simp, ?_, ?_⟩, ?_⟩
          · have := HS.out.1
            rw [hval] at this
            exact this
          · exact grownBy_store HS.out.2.1 _ _
          · simp [intOf]; omega
        · have hlt' : ¬ ((j : Int) < 4) := by omega
          obtain rfl : j = 4 := by omega
          obtain ⟨wx, rfl⟩ : ∃ V, V = wr := ⟨_, rfl⟩
          rw [Pe.putTo_all] at ho
          obtain ⟨cb', hcb⟩ : ∃ c, Pe.putAt (Pe.write Z) ck kk 4 = c := ⟨_, rfl⟩
          have hbl := H9.out.2.2.1
          have hzl2 : (Pe.putAt (Pe.write Z) ck kk 4).length = nb := by rw [Pe.putAt_len _ _ _ _ (by omega)]; exact hlb
          rw [hcb] at ho hzl2
          rw [hcb] at hbl
          obtain ⟨_, _, _, ec, hrc⟩ := ho.rd
          injection ec with q1 q2 q3
          subst q1 q2 q3
          have hrc' := hrc.more (Nat.le_trans hs79.2 hgr.size)
          have hs7 : w.heap.size ≤ w7.heap.size := H7.out.2.2.2.size
          have hbx : Below w.heap.size w wx := ((H8.out.2.1.trans (DT.out.1.below.mono H8.out.2.1.size))).grown hgr (by have := H8.out.2.1.size; omega) (fun k e => by injection e with e; omega)
          have hBdx := DT.out.1.sum.grown hgr (fun e => by injection e with e; omega)
          have hByx := H9.out.2.1.grown hgr (fun e => by injection e with e; omega)
          have HX := Lib.hid (And.intro hrc' (And.intro hbx (And.intro hBdx (And.intro hByx hbl))))
          have hdbx : db < wx.heap.size := hBdx.lt
          have hybx : yb < wx.heap.size := hByx.lt
          clear ho hgr hrc hrc' hbx hBdx hByx hbl hcb hzl2 k1
          go_wp2_with fail
          refine (digest_any (some ⟨gb, 0, none⟩) nb cb cb' wx HX.out.1 hnb).mono ?_
          rintro e w11a ⟨hbw11a, R, D, e3, rfl, hSR, herR, hlR, honeD, hzD, hokD⟩
          have ER := Lib.hid (And.intro hbw11a (And.intro hSR (And.intro herR (And.intro hlR (And.intro honeD (And.intro hzD hokD))))))
          clear hbw11a hSR herR hlR honeD hzD hokD
          go_upto_region 21 with (first
            | ((with_reducible refine at_store_t 31 ?_); refine wpList_store_b32 rfl _ _ rfl w11a.heap.size z32 R rfl ER.out.2.2.2.1 rfl rfl (dW_b w11a) ?_; intro w11b hBw11b hgw11b)
            | ((with_reducible refine at_store_img ?_); refine wpList_store_img rfl _ _ rfl (w11a.heap.size + 1) IV.zero D rfl rfl ((dW_i w11a).grown hgw11b (fun e => by injection e with e; omega)) ER.out.2.2.2.2.1 ?_; intro w11 hBw11 hgw11)
            | fail)
          have Dw11 := digAt (xs := cb') ER.out.1 hgw11b hBw11b hgw11 hBw11
          have Iw11 : e3 = 0 → ImgOwn cb' D wx.heap.size w11 := fun h => (ER.out.2.2.2.2.2.2 h).later (digBelow hgw11b hgw11)
          obtain ⟨dc, hdc⟩ : ∃ g, w11a.heap.size = g := ⟨_, rfl⟩
          rw [hdc] at Dw11 ⊢
          have DR := Lib.hid (And.intro Dw11 Iw11)
          clear hBw11b hgw11b hBw11 hgw11 Dw11 hdc Iw11
          obtain rfl : e3 = 0 := ER.out.2.2.1.symm.trans HX.out.2.2.2.2.1
          have hTR : R = T := by
            rw [← ER.out.2.1, ← ET.out.2.1]
            unfold dig
            rw [HX.out.2.2.2.2.1, HN.out.2.2.1, HX.out.2.2.2.2.2.2, HN.out.2.2.2.2.1]
          obtain ⟨l7, g7, hl7⟩ := (DR.out.2 rfl).sigs
          obtain ⟨A7, c7, e7, _⟩ := g7.rdL
          have hn7 : l7.length = m6 := by
            have h1 := congrArg List.length hl7
            rw [List.length_map, HX.out.2.2.2.2.2.1] at h1
            exact h1.trans HE.out.2.2.2.2.2.2.2
          rw [hn7] at e7
          subst hTR
          have k7 : w11.cell? ⟨dc + 1, 7, none⟩ = some (.slice A7 m6 c7) := (DR.out.1.img.cell 7).trans (by show some D.sigs = _; rw [e7])
          have k6 : w11.cell? ⟨yb, 6, none⟩ = some (.slice B6 m6 d6) := ((HX.out.2.2.2.1.below DR.out.1.below hybx).cell 6).trans (by show some V2.sigs = _; rw [HE.out.2.2.2.2.2.2.1])
          have hBd := HX.out.2.2.1.below DR.out.1.below hdbx
          have heq : ∀ W, (Op.equalIn 10000 31 (.agg (R.map u8v).toArray) (.agg (R.map u8v).toArray)).run Tryd.prog W = .ok true W := fun W => by rw [eq_b32 R R ER.out.2.2.2.1 ER.out.2.2.2.1]; simp
          have hend := HX.out.2.1.trans (DR.out.1.below.mono HX.out.2.1.size)
          have HF := Lib.hid (And.intro hBd hend)
          clear hBd hend g7 hl7 e7
          go_wp2_with (first | ((with_reducible refine at_load_t 31 ?_); refine wpList_load_b32_g _ rfl db R ER.out.2.2.2.1 rfl HF.out.1 (by rfl) ?_) | ((with_reducible refine at_load_t 31 ?_); refine wpList_load_b32_g _ rfl dc R ER.out.2.2.2.1 rfl DR.out.1.sum (by rfl) ?_) | fail)
          refine (meWorks_any w11).mono ?_
          rintro e wz ⟨rfl, hbwz⟩
          have Hwz := Lib.hid (HF.out.2.trans (hbwz.mono HF.out.2.size))
          clear hbwz
          go_wp2_with fail
          go_ret
          exact ⟨rfl, Hwz.out⟩
end Go.Proofs.YtedlpcioegbmfaaDoor
