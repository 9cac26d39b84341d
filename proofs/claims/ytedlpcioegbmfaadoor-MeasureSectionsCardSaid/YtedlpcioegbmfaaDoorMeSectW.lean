/- The walk of the law MeasureSections. -/
import Derived.Test.YtedlpcioegbmfaaDoorMeWorks
import Derived.Test.YtedlpcioegbmfaaDoorMeRow
import Derived.Test.YtedlpcioegbmfaaDoorMePlain2
import Derived.BigQuiet
import Derived.Deep.QuietTactic
namespace Go.Proofs.YtedlpcioegbmfaaDoor
open Go.RowKit
set_option maxRecDepth 100000
set_option linter.unusedVariables false
set_option linter.unusedSimpArgs false
/-- What is known behind Ranges and Digest of a shape's image. -/
structure MS (b : List UInt8) (f : Nat → Nat) (w5 : World) (rb ro k rc : Nat) (A4 : Option Addr) (m c4 : Nat) : Prop where
  row : ∀ W, Below w5.heap.size w5 W → RdP W w5.heap.size (some ⟨rb, ro, none⟩) k rc (Pe.ranges b)
  sec : ∀ W, Below w5.heap.size w5 W → RdS W w5.heap.size A4 m c4 (Pe.secs b)
  at_ : ∀ i, i < m → ∃ t x, t < m ∧ (Pe.secs b)[t]? = some x ∧ (Pe.ranges b)[3 + i]? = some (f i, f (i + 1)) ∧ x.1 = f i ∧ x.1 + x.2 = f (i + 1)
  fl : ∀ i, i ≤ m → f i ≤ 11100
  small : ∀ x ∈ Pe.secs b, x.1 < 4294967296 ∧ x.2 < 4294967296 ∧ x.1 + x.2 ≤ 11100
  lt : rb < w5.heap.size
theorem MS.cells {b : List UInt8} {f : Nat → Nat} {w5 W : World} {rb ro k rc m c4 : Nat} {A4 : Option Addr} (h : MS b f w5 rb ro k rc A4 m c4) (hW : Below w5.heap.size w5 W) {j : Nat} {x : Nat × Nat} (hx : (Pe.ranges b)[j]? = some x) :
    W.cell? ⟨rb, ro + j * 2, none⟩ = some (.int .i64 (x.1 : Int)) ∧ W.cell? ⟨rb, ro + j * 2 + 1, none⟩ = some (.int .i64 (x.2 : Int)) := by
  have hr := h.row W hW
  have hj : j < k := by
    have := (List.getElem?_eq_some_iff.1 hx).1
    have := hr.len
    omega
  obtain ⟨b', o', x', e, _, hx', h1, h2⟩ := hr.get hj
  injection e with e
  injection e with e1 e2
  subst e1 e2
  rw [hx] at hx'
  injection hx' with hx'
  subst hx'
  exact ⟨h1, h2⟩
set_option maxHeartbeats 8000000 in
theorem measureSections_walk (w : World) (V : ShV) (s : Pe.Shape) (h : ShRd w w.heap.size V s) :
    Calls Tryd.prog 4 #[.agg V.cells] w fun e w' => e = .returned (.bool true) ∧ Below w.heap.size w w' := by
  have hB0 : Bs (w.alloc (.cells V.cells 26)) w.heap.size V := Blk.new _ _ _
  have hbw0 : Below w.heap.size w (w.alloc (.cells V.cells 26)) := below_one w _
  have hr0 : ShRd (w.alloc (.cells V.cells 26)) (w.alloc (.cells V.cells 26)).heap.size V s := (h.below hbw0).more (by simp)
  obtain ⟨W0, hW0⟩ : ∃ W0, w.alloc (.cells V.cells 26) = W0 := ⟨_, rfl⟩
  rw [hW0] at hB0 hbw0 hr0
  have H := Lib.hid (And.intro hB0 (And.intro hr0 (And.intro hbw0 hW0)))
  clear h hB0 hr0 hbw0 hW0
  go_enter Tryd.func4, Tryd.ntmps4
  go_upto_region 1 with fail
  rw [H.out.2.2.2]
  go_wp2_with (first
    | ((with_reducible refine at_load_sh ?_); refine wpList_load_sh rfl _ rfl w.heap.size V rfl H.out.1 ?_)
    | fail)
  refine (brought_any V s W0 H.out.2.1).mono ?_
  rintro e w1 ⟨V1, rfl, hr1, hb1⟩
  have ho := Pe.brought_ok s
  have h8 := Pe.brought_sigs s
  have hol := Pe.order_len s
  obtain ⟨S, hS⟩ : ∃ S, Pe.brought s = S := ⟨_, rfl⟩
  rw [hS] at hr1 ho h8 hol
  have hread := Pe.Shape.write_read ho
  obtain ⟨he0, hi0⟩ := Pe.read_err hread ho h8
  have hsm := S.write_small ho
  obtain ⟨b, hb⟩ : ∃ b, Pe.write S = b := ⟨_, rfl⟩
  rw [hb] at hread he0 hi0 hsm
  have HN := Lib.hid (And.intro ho (And.intro hread (And.intro he0 (And.intro hi0 (And.intro hb (And.intro hol (And.intro hS h8)))))))
  clear ho hread he0 hi0 hb hol hS h8
  have hbw1 := H.out.2.2.1.trans (hb1.mono H.out.2.2.1.size)
  have H1 := Lib.hid (And.intro hr1 (And.intro hbw1 hr1.one))
  clear hr1 hb1 hbw1
  go_upto_region 2 with (first
    | ((with_reducible refine at_store_sh ?_); refine wpList_store_sh rfl _ _ rfl w1.heap.size ShV.zero V1 rfl rfl (Blk.new w1 _ _) H1.out.2.2 ?_; intro w2 hB2 hg2)
    | fail)
  have hb12 : Below w1.heap.size w1 w2 := (below_one w1 _).grown hg2 (by simp) (fun k e => by injection e with e; omega)
  have hr2 : ShRd w2 w2.heap.size V1 S := (H1.out.1.below hb12).more hb12.size
  have hbw2 := H1.out.2.1.trans (hb12.mono H1.out.2.1.size)
  have hx2 : w1.heap.size < w2.heap.size := hB2.lt
  obtain ⟨xb, hxb⟩ : ∃ xb, w1.heap.size = xb := ⟨_, rfl⟩
  rw [hxb] at hB2 hx2 ⊢
  have H2 := Lib.hid (And.intro hB2 (And.intro hr2 hbw2))
  clear hB2 hg2 hb12 hr2 hbw2 H1 hxb
  go_wp2_with (first
    | ((with_reducible refine at_load_sh ?_); refine wpList_load_sh rfl _ rfl xb V1 rfl H2.out.1 ?_)
    | fail)
  refine (write_any V1 S w2 H2.out.2.1 HN.out.1 HN.out.2.2.2.2.2.1).mono ?_
  rw [HN.out.2.2.2.2.1]
  rintro e w3 ⟨A3, n3, c3, rfl, ho3, hb3⟩
  obtain ⟨_, _, _, e3, hr3⟩ := ho3.rd
  injection e3 with q1 q2 q3
  subst q1 q2 q3
  have hl3 := hr3.len
  have hbw3 := H2.out.2.2.trans (hb3.mono H2.out.2.2.size)
  have hB3 := H2.out.1.below hb3 hx2
  have hsh3 := (H2.out.2.1.below hb3).more hb3.size
  have hx3 : xb < w3.heap.size := hB3.lt
  have hn3 : n3 ≤ 16777216 := by omega
  have hw23 : w.heap.size ≤ w2.heap.size ∧ w2.heap.size ≤ w3.heap.size := ⟨H2.out.2.2.size, hb3.size⟩
  have H3 := Lib.hid (And.intro hr3 (And.intro hB3 (And.intro hsh3 (And.intro hbw3 (And.intro ho3 hw23)))))
  clear hr3 hb3 hbw3 hB3 hsh3 ho3 H2 hx2 hw23
  go_wp2_with fail
  refine (ranges_out A3 n3 c3 b w3 H3.out.1 hn3).mono ?_
  rintro e w4 ⟨hb4, R, k, rc, er, rfl, her, _, hP⟩
  obtain rfl : er = 0 := her.symm.trans HN.out.2.2.1
  have H4 := Lib.hid (And.intro hb4 (hP rfl))
  clear hb4 her hP
  go_wp2_with fail
  refine (digest_any A3 n3 c3 b w4 (H3.out.1.up H4.out.1) hn3).mono ?_
  rintro e w5a ⟨hbw5a, T, C, e2, rfl, hST, herT, hlT, honeC, hzC, hokC⟩
  have ET := Lib.hid (And.intro hbw5a (And.intro hST (And.intro herT (And.intro hlT (And.intro honeC (And.intro hzC hokC))))))
  clear hbw5a hST herT hlT honeC hzC hokC
  go_upto_region 5 with (first
    | ((with_reducible refine at_store_t 31 ?_); refine wpList_store_b32 rfl _ _ rfl w5a.heap.size z32 T rfl ET.out.2.2.2.1 rfl rfl (dW_b w5a) ?_; intro w5b hBw5b hgw5b)
    | ((with_reducible refine at_store_img ?_); refine wpList_store_img rfl _ _ rfl (w5a.heap.size + 1) IV.zero C rfl rfl ((dW_i w5a).grown hgw5b (fun e => by injection e with e; omega)) ET.out.2.2.2.2.1 ?_; intro w5 hBw5 hgw5)
    | fail)
  have Dw5 := digAt (xs := b) ET.out.1 hgw5b hBw5b hgw5 hBw5
  have Iw5 : e2 = 0 → ImgOwn b C w4.heap.size w5 := fun h => (ET.out.2.2.2.2.2.2 h).later (digBelow hgw5b hgw5)
  obtain ⟨db, hdb⟩ : ∃ g, w5a.heap.size = g := ⟨_, rfl⟩
  rw [hdb] at Dw5 ⊢
  have DT := Lib.hid (And.intro Dw5 Iw5)
  clear hBw5b hgw5b hBw5 hgw5 Dw5 hdb Iw5
  obtain rfl : e2 = 0 := ET.out.2.2.1.symm.trans HN.out.2.2.1
  have hI := DT.out.2 rfl
  have hone := ET.out.2.2.2.2.1
  have hbw5 : Below w.heap.size w w5 := H3.out.2.2.2.1.trans ((H4.out.1.trans (DT.out.1.below.mono H4.out.1.size)).mono H3.out.2.2.2.1.size)
  obtain ⟨_, nck, ndr, nhd, _, nln⟩ := hI.nums
  obtain ⟨A4, c4, e4, r4⟩ := hI.secs.rdS
  have hP5 := (H4.out.2.below DT.out.1.below).more DT.out.1.below.size
  have hright := Pe.right_of HN.out.2.2.1
  have hmany := hright.many
  have hr3 := Pe.ranges_heads b
  have hrl := Pe.ranges_len b
  rw [H4.out.2.len] at hrl
  have hlay := Pe.laid3 HN.out.2.2.1
  have hfit := ranges_fit HN.out.2.2.1
  have heq5 := last_eq HN.out.2.2.1
  rw [hl3] at heq5
  obtain ⟨m, hm⟩ : ∃ m, (Pe.secs b).length = m := ⟨_, rfl⟩
  rw [hm] at e4 r4 hmany hrl
  obtain ⟨rb, ro, _, rfl, hrb, _, _, _⟩ := hP5.get (k := 0) (by omega)
  obtain ⟨f, hf⟩ : ∃ f : Nat → Nat, (fun i => Pe.headers b + Pe.sizes ((Pe.riseS (Pe.secs b)).take i)) = f := ⟨_, rfl⟩
  have hfi : ∀ i, Pe.headers b + Pe.sizes ((Pe.riseS (Pe.secs b)).take i) = f i := fun i => congrFun hf i
  have hf0 : f 0 = Pe.headers b := by rw [← hfi]; simp [Pe.sizes]
  have hfm : f m = Pe.end_ b := by rw [← hfi, ← hm]; exact Pe.end_eq b
  have hat : ∀ i, i < m → ∃ t x, t < m ∧ (Pe.secs b)[t]? = some x ∧ (Pe.ranges b)[3 + i]? = some (f i, f (i + 1)) ∧ x.1 = f i ∧ x.1 + x.2 = f (i + 1) := fun i hi => by
    obtain ⟨x, hx, h1, h2, h3⟩ := Pe.sec_at HN.out.2.2.1 (i := i) (by omega)
    rw [hfi, hfi] at h1
    rw [hfi] at h2 h3
    obtain ⟨t, ht⟩ := List.getElem?_of_mem hx
    exact ⟨t, x, by have := (List.getElem?_eq_some_iff.1 ht).1; omega, ht, h1, h2, h3⟩
  have hfl : ∀ i, i ≤ m → f i ≤ 11100 := fun i hi => by
    rcases i with _ | i
    · rw [hf0]; have := hright.headers.2; omega
    · obtain ⟨_, _, _, _, h1, _, _⟩ := hat i (by omega)
      have := (hfit _ (List.mem_of_getElem? h1)).2
      dsimp only at this
      omega
  have hsmall : ∀ x ∈ Pe.secs b, x.1 < 4294967296 ∧ x.2 < 4294967296 ∧ x.1 + x.2 ≤ 11100 := fun x hx => by
    have h1 := (hright.each x hx).2.2
    have h2 := hright.fits
    omega
  have hMS : MS b f w5 rb ro k rc A4 m c4 := ⟨fun W hW => hP5.keep fun p hp => hW.cell hp, fun W hW => r4.keep fun p hp => hW.cell hp, hat, hfl, hsmall, hrb⟩
  obtain ⟨ck, hck⟩ : ∃ x, C.check = x := ⟨_, rfl⟩
  obtain ⟨dr, hdr⟩ : ∃ x, C.dir = x := ⟨_, rfl⟩
  obtain ⟨hd, hhd⟩ : ∃ x, C.headers = x := ⟨_, rfl⟩
  obtain ⟨ln, hln⟩ : ∃ x, C.length = x := ⟨_, rfl⟩
  obtain ⟨la, hla⟩ : ∃ x, Pe.last b = x := ⟨_, rfl⟩
  obtain ⟨en, hen⟩ : ∃ x, Pe.end_ b = x := ⟨_, rfl⟩
  rw [← nln, hla, hln] at heq5
  rw [hen, hla] at hrl
  rw [hen] at hfm
  rw [← nhd, hhd] at hf0
  have hri := Pe.ranges_last b
  rw [hen, hla, hm] at hri
  have o1 : Pe.opt b + 64 = ck := by omega
  have o2 : Pe.opt b + 68 = ck + 4 := by omega
  have o3 : Pe.dirs b + 32 = dr := by omega
  have o4 : Pe.dirs b + 40 = dr + 8 := by omega
  rw [o1, o2, o3, o4, ← nhd, hhd] at hr3
  have hb1 : dr + 8 ≤ hd := by have := hright.headers.1; omega
  have hb2 : hd ≤ 11100 := by have := hright.headers.2; omega
  have hb3 : ck + 4 ≤ dr := by have := hright.dir; omega
  have hb4 : la ≤ n3 := by have := hlay.e; omega
  have hb5 : ln ≤ n3 := by omega
  have hF : ∀ W, Below w5.heap.size w5 W → W.cell? ⟨db + 1, 1, none⟩ = some (.int .i64 (ck : Int)) ∧ W.cell? ⟨db + 1, 2, none⟩ = some (.int .i64 (dr : Int)) ∧ W.cell? ⟨db + 1, 3, none⟩ = some (.int .u32 (hd : Int)) ∧ W.cell? ⟨db + 1, 4, none⟩ = some (.slice A4 m c4) ∧ W.cell? ⟨db + 1, 6, none⟩ = some (.int .u32 (ln : Int)) := fun W hW => by
    have hB := (DT.out.1.later hW).img
    exact ⟨by rw [← hck]; exact hB.cell 1, by rw [← hdr]; exact hB.cell 2, by rw [← hhd]; exact hB.cell 3, by rw [← e4]; exact hB.cell 4, by rw [← hln]; exact hB.cell 6⟩
  have HM := Lib.hid (And.intro hMS (And.intro hF (And.intro hbw5 (And.intro hri (And.intro hf0 (And.intro hfm hr3))))))
  obtain ⟨k1, k2, k3, k4, k6⟩ := hF w5 (Below.refl _ _)
  have hdbl : db + 1 < w5.heap.size := DT.out.1.il
  clear hI hone hbw5 nck ndr nhd nln e4 r4 hP5 hright hr3 hlay hfit hm hf hfi hat hfl hsmall hMS hck hdr hhd hln hla hen hri o1 o2 o3 o4 hF hf0 hfm hrb
  obtain ⟨h00, h01⟩ := HM.out.1.cells (Below.refl _ _) HM.out.2.2.2.2.2.2.1
  obtain ⟨h10, h11⟩ := HM.out.1.cells (Below.refl _ _) HM.out.2.2.2.2.2.2.2.1
  obtain ⟨h20, h21⟩ := HM.out.1.cells (Below.refl _ _) HM.out.2.2.2.2.2.2.2.2
  have lp0 : ∀ n, (loadVar 43 ⟨rb, ro, none⟩).run Tryd.prog (w5.drewN n) = .ok (.agg #[.int .i64 0, .int .i64 (ck : Int)]) (w5.drewN n) := fun n => load_pair (x := (0, ck)) (by simpa using h00) (by simpa using h01)
  have lp1 : ∀ n, (loadVar 43 ⟨rb, ro + 2, none⟩).run Tryd.prog (w5.drewN n) = .ok (.agg #[.int .i64 ((ck : Int) + 4), .int .i64 (dr : Int)]) (w5.drewN n) := fun n => load_pair (x := (ck + 4, dr)) (by simpa using h10) (by simpa using h11)
  have lp2 : ∀ n, (loadVar 43 ⟨rb, ro + 4, none⟩).run Tryd.prog (w5.drewN n) = .ok (.agg #[.int .i64 ((dr : Int) + 8), .int .i64 (hd : Int)]) (w5.drewN n) := fun n => load_pair (x := (dr + 8, hd)) (by simpa using h20) (by simpa using h21)
  have hep := eq_pair
  have hk3m : 3 + m ≤ k := by split at hrl <;> omega
  have hkm : ¬ ((k : Int) < 3 + (m : Int)) := by omega
  have HRL := Lib.hid (And.intro hrl heq5)
  clear hrl heq5 hk3m
  have hk3 : 3 ≤ k := by have := HRL.out.1; split at this <;> omega
  have hk0 : 0 < k := by omega
  have hk1 : 1 < k := by omega
  have hk2 : 2 < k := by omega
  have hkI : (2 : Int) < (k : Int) := by omega
  have j1 : IntKind.i64.wrap (3 + (m : Int)) = 3 + (m : Int) := by rw [IntKind.wrap_i64]; omega
  have j2 : IntKind.i64.wrap ((ck : Int) + 4) = (ck : Int) + 4 := by rw [IntKind.wrap_i64]; omega
  have j3 : IntKind.i64.wrap ((dr : Int) + 8) = (dr : Int) + 8 := by rw [IntKind.wrap_i64]; omega
  have j4 : IntKind.i64.wrap (hd : Int) = (hd : Int) := by rw [IntKind.wrap_i64]; omega
  have j5 : IntKind.i64.wrap (ln : Int) = (ln : Int) := by rw [IntKind.wrap_i64]; omega
  go_upto_region 7 with fail
  refine wp_region_quiet_lit (by kernel_rfl) (by kernel_rfl) ?_
  repeat (first
    | go_big_quiet_skip
    | (go_big_quiet_want; (refine quiet_load_t 43 _ (by rfl) _ _ (by rfl) (by rintro _ ⟨n, rfl⟩; first | exact lp0 n | exact lp1 n | exact lp2 n) ?_); simp only [Act.put, List.setIfInBounds_toArray, List.set_cons_zero, List.set_cons_succ]; go_big_quiet_on)
    | go_big_quiet_step (fail))
  refine wpQuiet_nil ?_
  intro _ hw'
  obtain ⟨nq, hw''⟩ := hw'
  subst hw''
  have hb56 : Below w5.heap.size w5 (w5.drewN nq) := below_drewN (Below.refl _ _) nq
  obtain ⟨w6, hw6⟩ : ∃ x, w5.drewN nq = x := ⟨_, rfl⟩
  rw [hw6] at hb56 ⊢
  have H6 := Lib.hid hb56
  clear lp0 lp1 lp2 h00 h01 h10 h11 h20 h21 hb56 hw6 k1 k2 k3 k4 k6
  obtain ⟨k1, k2, k3, k4, k6⟩ := HM.out.2.1 w6 H6.out
  go_wp2_with fail
  have hf0 := HM.out.2.2.2.2.1
  go_loopw [10, 11] (fun ev i wr => ∃ j : Nat, j ≤ m ∧ ev = .int .i64 (f j : Int) ∧ i = .int .i64 (j : Int) ∧ Below w5.heap.size w5 wr) (fun _ i _ => m - (intOf i).toNat)
  case atStart => exact ⟨0, Nat.zero_le _, by rw [hf0], rfl, H6.out⟩
  case round =>
    obtain ⟨j, hj, rfl, rfl, hb⟩ := hrel
    clear k1 k2 k3 k4 k6 hf0
    obtain ⟨k1, k2, k3, k4, k6⟩ := HM.out.2.1 wr hb
    obtain ⟨wo, rfl⟩ : ∃ V, V = wr := ⟨_, rfl⟩
    by_cases hlt : j < m
    · obtain ⟨t, ⟨xo, xz⟩, ht, hxt, hrj, hx1, hx2⟩ := HM.out.1.at_ j hlt
      have hfa := HM.out.1.fl j (by omega)
      have hfc := HM.out.1.fl (j + 1) (by omega)
      obtain ⟨c0, c1⟩ := HM.out.1.cells hb hrj
      dsimp only at hx1 hx2 c0 c1
      obtain ⟨fa, hfaE⟩ : ∃ a, f j = a := ⟨_, rfl⟩
      obtain ⟨fc, hfcE⟩ : ∃ a, f (j + 1) = a := ⟨_, rfl⟩
      rw [hfaE] at hx1 hfa c0 ⊢
      rw [hfcE] at hx2 hfc c1
      have hlI : (j : Int) < (m : Int) := by omega
      have j6 : IntKind.i64.wrap (3 + (j : Int)) = 3 + (j : Int) := by rw [IntKind.wrap_i64]; omega
      have hjk : 3 + j < k := by have := HRL.out.1; split at this <;> omega
      have hjkI : 3 + (j : Int) < (k : Int) := by omega
      have hj0 : (0 : Int) ≤ 3 + (j : Int) := by omega
      have hjN : (3 + (j : Int)).toNat = 3 + j := by omega
      have hbl : Below w5.heap.size w5 wo := hb
      have HB := Lib.hid (And.intro hb (And.intro hxt (And.intro hx1 (And.intro hx2 (And.intro hfaE hfcE)))))
      clear hb hxt hx1 hx2 hrj hbl hfaE hfcE
      go_upto_region 14 with fail
      have hB12 := Blk.new wo 43 #[.int .i64 (fa : Int), .int .i64 (fc : Int)]
      have hba : Below wo.heap.size wo (wo.alloc (.cells #[.int .i64 (fa : Int), .int .i64 (fc : Int)] 43)) := below_one _ _
      obtain ⟨wa, hwa⟩ : ∃ V, wo.alloc (.cells #[.int .i64 (fa : Int), .int .i64 (fc : Int)] 43) = V := ⟨_, rfl⟩
      rw [hwa] at hB12 hba ⊢
      obtain ⟨g, hg⟩ : ∃ g, wo.heap.size = g := ⟨_, rfl⟩
      rw [hg] at hB12 ⊢
      have hb5a : Below w5.heap.size w5 wa := HB.out.1.trans (hba.mono HB.out.1.size)
      have HA := Lib.hid (And.intro hB12 (And.intro hb5a hba))
      clear hB12 hba hwa hg hb5a c0 c1 k1 k2 k3 k4 k6
      obtain ⟨k1, k2, k3, k4, k6⟩ := HM.out.2.1 wa HA.out.2.1
      go_wp2_with fail
      go_loopw [13, 14] (fun th i wr => ∃ (q : Nat) (tb : Bool), q ≤ m ∧ th = .bool tb ∧ i = .int .i64 (q : Int) ∧ (t < q → tb = true) ∧ Below wa.heap.size wa wr) (fun _ i _ => m - (intOf i).toNat)
      case atStart => exact ⟨0, false, Nat.zero_le _, rfl, rfl, fun h => absurd h (by omega), Below.refl _ _⟩
      case round =>
        obtain ⟨q, tb, hq, rfl, rfl, htb, hb2⟩ := hrel
        clear k1 k2 k3 k4 k6
        have hb5 : Below w5.heap.size w5 wr := HA.out.2.1.trans (hb2.mono HA.out.2.1.size)
        have hBr := HA.out.1.below hb2 HA.out.1.lt
        obtain ⟨k1, k2, k3, k4, k6⟩ := HM.out.2.1 wr hb5
        have g0 : wr.cell? ⟨g, 0, none⟩ = some (.int .i64 (fa : Int)) := hBr.cell 0
        have g1 : wr.cell? ⟨g, 1, none⟩ = some (.int .i64 (fc : Int)) := hBr.cell 1
        by_cases hql : q < m
        · have hqI : (q : Int) < (m : Int) := by omega
          obtain ⟨sb, so, ⟨yo, yz⟩, rfl, _, hy, d0, d1⟩ := (HM.out.1.sec wr hb5).get hql
          obtain ⟨hy1, hy2, hy3⟩ := HM.out.1.small _ (List.mem_of_getElem? hy)
          dsimp only at d0 d1 hy1 hy2 hy3
          have i1 : IntKind.i64.wrap (yo : Int) = (yo : Int) := by rw [IntKind.wrap_i64]; omega
          have i2 : IntKind.i64.wrap (yz : Int) = (yz : Int) := by rw [IntKind.wrap_i64]; omega
          have i3 : IntKind.i64.wrap ((yo : Int) + (yz : Int)) = (yo : Int) + (yz : Int) := by rw [IntKind.wrap_i64]; omega
          have HQ := Lib.hid (And.intro htb (And.intro hb2 hy))
          have hsz : wa.heap.size ≤ wr.heap.size := hb2.size
          clear htb hb2 hb5 hBr hy
          have hgl : g < wr.heap.size := Nat.lt_of_lt_of_le HA.out.1.lt hsz
          go_upto_region 19 with fail
          have hBn := Blk.new wr 45 #[.int .u32 (yo : Int), .int .u32 (yz : Int)]
          have hbn : Below wr.heap.size wr (wr.alloc (.cells #[.int .u32 (yo : Int), .int .u32 (yz : Int)] 45)) := below_one _ _
          obtain ⟨wb, hwb⟩ : ∃ V, wr.alloc (.cells #[.int .u32 (yo : Int), .int .u32 (yz : Int)] 45) = V := ⟨_, rfl⟩
          rw [hwb] at hBn hbn ⊢
          obtain ⟨h, hh⟩ : ∃ g, wr.heap.size = g := ⟨_, rfl⟩
          have g0 : wb.cell? ⟨g, 0, none⟩ = some (.int .i64 (fa : Int)) := (hbn.cell (p := ⟨g, 0, none⟩) hgl).trans g0
          have g1 : wb.cell? ⟨g, 1, none⟩ = some (.int .i64 (fc : Int)) := (hbn.cell (p := ⟨g, 1, none⟩) hgl).trans g1
          have hbq : Below wa.heap.size wa wb := HQ.out.2.1.trans (hbn.mono hsz)
          rw [hh] at hBn ⊢
          have z0 : wb.cell? ⟨h, 0, none⟩ = some (.int .u32 (yo : Int)) := hBn.cell 0
          have z1 : wb.cell? ⟨h, 1, none⟩ = some (.int .u32 (yz : Int)) := hBn.cell 1
          have HW := Lib.hid hbq
          clear hBn hbn hwb hh hbq d0 d1 k1 k2 k3 k4 k6
          cases tb
          · have HT : t < q + 1 → decide ((fa : Int) = (yo : Int) ∧ (fc : Int) = (yo : Int) + (yz : Int)) = true := fun h => by
              have htq : t = q := by
                rcases Nat.lt_or_ge t q with h' | h'
                · exact absurd (HQ.out.1 h') (by decide)
                · omega
              have e := HB.out.2.1
              rw [htq, HQ.out.2.2] at e
              injection e with e
              injection e with e1 e2
              have h1 := HB.out.2.2.1
              have h2 := HB.out.2.2.2.1
              rw [decide_eq_true_eq]
              omega
            have HT := Lib.hid HT
            go_wp2_with fail
            go_roundw
            case rel => exact ⟨q + 1, _, by omega, rfl, by go_num, fun h => by simpa using HT.out h, HW.out⟩
            case measure => simp [intOf]; omega
          · go_wp2_with fail
            go_roundw
            case rel => exact ⟨q + 1, true, by omega, rfl, by go_num, fun _ => rfl, HW.out⟩
            case measure => simp [intOf]; omega
        · have hqI : ¬ ((q : Int) < (m : Int)) := by omega
          obtain rfl : tb = true := htb (by omega)
          have HF := Lib.hid hb5
          clear htb hb2 hb5 hBr
          go_wp2_with fail
          go_roundw
          case rel => exact ⟨j + 1, by omega, by rw [HB.out.2.2.2.2.2], by go_num, HF.out⟩
          case measure => simp [intOf]; omega
    · have hlI : ¬ ((j : Int) < (m : Int)) := by omega
      obtain rfl : j = m := by omega
      have hfm := HM.out.2.2.2.2.2.1
      have HZ := Lib.hid hb
      have j7 : IntKind.i64.wrap ((n3 : Int) - (ln : Int)) = (la : Int) := by rw [HRL.out.2, IntKind.wrap_i64]; omega
      have j8 : IntKind.i64.wrap (4 + (j : Int)) = 4 + (j : Int) := by rw [IntKind.wrap_i64]; omega
      rw [hfm]
      clear hb hfm
      by_cases hel : en < la
      · have helI : (en : Int) < (la : Int) := by omega
        have hk4 : k = 3 + j + 1 := by have := HRL.out.1; rw [if_pos hel] at this; exact this
        have hkB : ((k : Int) == 4 + (j : Int)) = true := by simp; omega
        have hkp : (k : Int) - 1 = ((3 + j : Nat) : Int) := by omega
        obtain ⟨c0, c1⟩ := HM.out.1.cells HZ.out (HM.out.2.2.2.1 hel)
        dsimp only at c0 c1
        obtain ⟨kp, hkq⟩ : ∃ q, 3 + j = q := ⟨_, rfl⟩
        rw [hkq] at hkp c0 c1
        have hkl : kp < k := by omega
        have hkI : (kp : Int) < (k : Int) := by omega
        have j9 : IntKind.i64.wrap (kp : Int) = (kp : Int) := by rw [IntKind.wrap_i64]; omega
        have j10 : IntKind.i64.wrap ((k : Int) - 1) = (kp : Int) := by rw [hkp, j9]
        have HK := Lib.hid (And.intro hk4 hkq)
        clear hk4 hkq hel
        go_wp2_with fail
        refine (meWorks_any wo).mono ?_
        rintro e wz ⟨rfl, hbz⟩
        have hbo : Below w.heap.size w wo := HM.out.2.2.1.trans (HZ.out.mono HM.out.2.2.1.size)
        have Hwz := Lib.hid (hbo.trans (hbz.mono hbo.size))
        clear hbz hbo
        go_wp2_with fail
        go_ret
        exact ⟨rfl, Hwz.out⟩
      · have helI : ¬ ((en : Int) < (la : Int)) := by omega
        have hkB : ((k : Int) == 3 + (j : Int)) = true := by
          have := HRL.out.1
          rw [if_neg hel] at this
          simp; omega
        clear hel
        go_wp2_with fail
        refine (meWorks_any wo).mono ?_
        rintro e wz ⟨rfl, hbz⟩
        have hbo : Below w.heap.size w wo := HM.out.2.2.1.trans (HZ.out.mono HM.out.2.2.1.size)
        have Hwz := Lib.hid (hbo.trans (hbz.mono hbo.size))
        clear hbz hbo
        go_wp2_with fail
        go_ret
        exact ⟨rfl, Hwz.out⟩
end Go.Proofs.YtedlpcioegbmfaaDoor
