/- The walk of the law PeSigs. -/
import Derived.Test.YtlfajfmkljnodaaDoorPeWorks
import Derived.Test.YtlfajfmkljnodaaDoorPeFr
import Derived.Test.YtlfajfmkljnodaaDoorPeLaid
import Derived.Test.YtlfajfmkljnodaaDoorPeRGet
import Derived.Test.YtlfajfmkljnodaaDoorPeBL
namespace Go.Proofs.YtlfajfmkljnodaaDoor
open Go.RowKit
set_option maxRecDepth 100000
set_option linter.unusedVariables false
set_option linter.unusedSimpArgs false
set_option maxHeartbeats 8000000 in
theorem peSigs_walk (w : World) (V : ShV) (s : Pe.Shape) (h : ShRd w w.heap.size V s) (As : Option Addr) (ns cs : Nat) (sig : List UInt8) (hsg : Rd w w.heap.size As ns cs sig) (a2 : Int) (h2 : (Lit.int .u8 a2).wf = true) :
    Calls Tryd.prog 6 #[.agg V.cells, .slice As ns cs, .int .u8 a2] w fun e w' => e = .returned (.bool true) ∧ Below w.heap.size w w' := by
  obtain ⟨m2, rfl, hm2⟩ : ∃ m : Nat, a2 = (m : Int) ∧ m < 256 := by
    have e1 : IntKind.u8.min = 0 := rfl
    have e2 : IntKind.u8.max = 255 := rfl
    simp only [Lit.wf, Bool.and_eq_true, decide_eq_true_eq] at h2
    exact ⟨a2.toNat, by omega, by omega⟩
  clear h2
  have HSG := Lib.hid hsg
  clear hsg
  have hB0 : Bs (w.alloc (.cells V.cells 39)) w.heap.size V := Blk.new _ _ _
  have hbw0 : Below w.heap.size w (w.alloc (.cells V.cells 39)) := below_one w _
  have hr0 : ShRd (w.alloc (.cells V.cells 39)) (w.alloc (.cells V.cells 39)).heap.size V s := (h.below hbw0).more (by simp)
  obtain ⟨W0, hW0⟩ : ∃ W0, w.alloc (.cells V.cells 39) = W0 := ⟨_, rfl⟩
  rw [hW0] at hB0 hbw0 hr0
  have H := Lib.hid (And.intro hB0 (And.intro hr0 (And.intro hbw0 hW0)))
  clear h hB0 hr0 hbw0 hW0
  go_enter Tryd.func6, Tryd.ntmps6
  go_upto_region 1 with fail
  rw [H.out.2.2.2]
  go_wp2_with (first
    | ((with_reducible refine at_load_sh ?_); refine wpList_load_sh rfl _ rfl w.heap.size V rfl H.out.1 ?_)
    | fail)
  refine (brought_any V s W0 H.out.2.1).mono ?_
  rintro e w1 ⟨V1, rfl, hr1, hb1⟩
  have ho0 := Pe.brought_ok s
  have hol := Pe.order_len s
  obtain ⟨S0, hS0⟩ : ∃ S, Pe.brought s = S := ⟨_, rfl⟩
  rw [hS0] at hr1 ho0 hol
  have HN0 := Lib.hid (And.intro ho0 (And.intro hol hS0))
  clear ho0 hol hS0
  have hbw1 := H.out.2.2.1.trans (hb1.mono H.out.2.2.1.size)
  have H1 := Lib.hid (And.intro hr1 (And.intro hbw1 hr1.one))
  clear hr1 hb1 hbw1
  go_upto_region 2 with (first
    | ((with_reducible refine at_store_sh ?_); refine wpList_store_sh rfl _ _ rfl w1.heap.size ShV.zero V1 rfl rfl (Blk.new w1 _ _) H1.out.2.2 ?_; intro w2 hB2 hg2)
    | fail)
  have hb12 : Below w1.heap.size w1 w2 := (below_one w1 _).grown hg2 (by simp) (fun k e => by injection e with e; omega)
  have hr2 : ShRd w2 w1.heap.size V1 S0 := H1.out.1.below hb12
  have hbw2 := H1.out.2.1.trans (hb12.mono H1.out.2.1.size)
  have hx2 : w1.heap.size < w2.heap.size := hB2.lt
  obtain ⟨xb, hxb⟩ : ∃ xb, w1.heap.size = xb := ⟨_, rfl⟩
  have hxw : w.heap.size ≤ w1.heap.size := H1.out.2.1.size
  rw [hxb] at hB2 hx2 hr2 hxw ⊢
  have H2 := Lib.hid (And.intro hB2 (And.intro hr2 hbw2))
  clear hB2 hg2 hb12 hr2 hbw2 H1 hxb
  obtain ⟨mn, hmn⟩ : ∃ x, m2 % 20 = x := ⟨_, rfl⟩
  have hmn20 : mn < 20 := by omega
  have hmod : Int.tmod (m2 : Int) 20 = (mn : Int) := by rw [← hmn]; rfl
  clear hmn
  by_cases hsl : ns ≤ 200
  · have hsl' : ¬ ((200 : Int) < ns) := by omega
    obtain ⟨A6, n6, c6, l6, e6, _, _⟩ := H2.out.2.1.sigs
    have k6 : w2.cell? ⟨xb, 6, none⟩ = some (.slice A6 n6 c6) := (H2.out.1.cell 6).trans (by rw [← e6]; rfl)
    have f6 : w2.frozen? ⟨xb, 6, none⟩ = false := H2.out.1.frozen 6
    obtain ⟨wm, hwm⟩ : ∃ x, w2.setCell ⟨xb, 6, none⟩ (.slice none 0 0) = x := ⟨_, rfl⟩
    have hszm : wm.heap.size = w2.heap.size := by rw [← hwm]; simp
    have hBm : Bs wm xb { V1 with sigs := .slice none 0 0 } := by rw [← hwm]; exact H2.out.1.set_ 6 _
    have hkb : Below xb w2 wm := by rw [← hwm]; exact (Below.refl xb w2).grown (grownBy_set w2 ⟨xb, 6, none⟩ _) (Nat.le_of_lt hx2) (fun k e => by cases e; exact Nat.le_refl _)
    have hshm : ShRd wm xb V1 S0 := H2.out.2.1.below hkb
    have hbwm : Below w.heap.size w wm := by rw [← hwm]; exact H2.out.2.2.grown (grownBy_set w2 ⟨xb, 6, none⟩ _) H2.out.2.2.size (fun k e => by cases e; exact hxw)
    have hxm : xb < wm.heap.size := by omega
    have HM0 := Lib.hid (And.intro hBm (And.intro hshm hbwm))
    clear hBm hkb hshm hbwm e6
    go_upto_region 6 with fail
    clear hwm k6 f6
    go_wp2_with fail
    go_loopw [9, 10] (fun i _ wr => ∃ (j : Nat) (v : Value) (L : List (Value × List UInt8)), j ≤ mn ∧ i = .int .i64 (j : Int) ∧ B2 xb V1 wm v L wr ∧ L.map (·.2) = (List.range j).map fun k => UInt8.ofNat k :: sig) (fun i _ _ => mn - (intOf i).toNat)
    case atStart => exact ⟨0, _, [], Nat.zero_le _, rfl, ⟨XS.nil_, HM0.out.1, grown_refl _ _⟩, rfl⟩
    case round =>
      obtain ⟨j, v, L, hj, rfl, hB, hL⟩ := hrel
      have hgs := hB.grown.size
      have hbwr : Below w.heap.size w wr := HM0.out.2.2.grown hB.grown HM0.out.2.2.size (fun k e => by injection e with e; omega)
      by_cases hlt : j < mn
      · have hlt' : (j : Int) < mn := by omega
        have hLn : L.length = j := by have := congrArg List.length hL; simpa using this
        obtain ⟨x, hx⟩ : ∃ x : UInt8, UInt8.ofNat j = x := ⟨_, rfl⟩
        have hxj : x.toNat = j := by rw [← hx, UInt8.toNat_ofNat', Nat.mod_eq_of_lt (by omega)]
        have hL1 : ∀ u : Value, (L ++ [(u, x :: sig)]).map (·.2) = (List.range (j + 1)).map fun k => UInt8.ofNat k :: sig := fun u => by
          rw [List.map_append, hL, List.range_succ, List.map_append]
          simp [hx]
        have qp6 : wr.cell? ⟨xb, 6, none⟩ = some v := hB.atP.cell 6
        obtain ⟨Av2, cv2, rfl, _⟩ := hB.row.rdl
        have hwu8 : IntKind.u8.wrap (j : Int) = (j : Int) := by simp only [IntKind.wrap, IntKind.bits, IntKind.signed]; simp; omega
        have HI := Lib.hid (And.intro hB (And.intro hL1 (And.intro hbwr (And.intro hLn hxj))))
        have hpr : xb < wr.heap.size := by omega
        have hwwr : w.heap.size ≤ wr.heap.size := by omega
        subst hLn
        clear hB hL hL1 hbwr hx
        go_upto_region 10 with fail
        obtain ⟨W1, hW1⟩ : ∃ W1, wr.alloc (.cells #[.int .u8 (L.length : Int)] 5) = W1 := ⟨_, rfl⟩
        rw [hW1]
        have hown1 : OwnB W1 wr.heap.size (wr.heap.size + 1) (.slice (some ⟨wr.heap.size, 0, none⟩) 1 1) [x] := by rw [← hW1]; exact OwnB.lit wr [x] _ 1 (by simp [bv, hxj]) rfl (by omega)
        have hs1 : W1.heap.size = wr.heap.size + 1 := by rw [← hW1]; simp
        have hb1 : Below wr.heap.size wr W1 := by rw [← hW1]; exact (Below.refl _ _).alloc (Nat.le_refl _) _
        have hrs : Rd W1 w.heap.size As ns cs sig := HSG.out.below (HI.out.2.2.1.trans (hb1.mono hwwr))
        have H1b := Lib.hid (And.intro hown1 (And.intro hb1 hrs))
        clear hW1 hown1 hb1 hrs
        go_upto_region 11 with (first
          | (at_builtin
             refine wpList_app rfl (.tmp 32) (.tmp 33) rfl wr.heap.size (wr.heap.size + 1) _ [x] rfl H1b.out.1 (by omega) w.heap.size As ns cs sig rfl H1b.out.2.2.rds (by simp; omega) ?_
             intro v6 w6 ho6 hg6 hat6 hb6
             have H6 := Lib.hid (And.intro ho6 hb6)
             clear ho6 hg6 hat6 hb6)
          | fail)
        obtain ⟨A6', n6', c6', rfl, _⟩ := H6.out.1.rd
        have hcr : wm.heap.size ≤ wr.heap.size := hgs
        have hb6 : Below wr.heap.size wr w6 := H1b.out.2.1.trans H6.out.2
        have hX6 : XS w6 wm.heap.size (.slice Av2 L.length cv2) L := HI.out.1.row.below hb6
        have hP6 : Bs w6 xb { V1 with sigs := .slice Av2 L.length cv2 } := (hb6.block xb hpr).trans HI.out.1.atP
        have qp6' : w6.cell? ⟨xb, 6, none⟩ = some (.slice Av2 L.length cv2) := hP6.cell 6
        have hrt : RdT w6 (.slice A6' n6' c6') (x :: sig) := RdT.own H6.out.1
        have hs6 := hb6.size
        have H7 := Lib.hid (And.intro hb6 (And.intro (hX6.alloc (.cells #[.slice A6' n6' c6'] 22)) (And.intro (hrt.alloc (.cells #[.slice A6' n6' c6'] 22)) hP6)))
        clear hb6 hX6 hP6 hrt qp6
        have hjl : L.length ≤ 1000 := by omega
        go_wp2_with (first
          | (at_builtin; refine wpList_xs rfl (.tmp 36) (.tmp 38) rfl wm.heap.size _ _ rfl H7.out.2.1 (by simp; omega) w6.heap.size (.slice A6' n6' c6') (x :: sig) rfl (Blk.cell (Blk.new w6 _ _) 0) (by simp) H7.out.2.2.1 (by omega) ?_; intro v7 w7 hX7 hB7; obtain ⟨Av7, cv7, rfl, _⟩ := hX7.rdl; have hb7 : Below wm.heap.size wr w7 := ((H7.out.1.mono hcr).alloc (by omega) _).trans hB7; have hP7 : Bs w7 xb { V1 with sigs := .slice Av2 L.length cv2 } := (hb7.block xb (by omega)).trans HI.out.1.atP; have qp7 := hP7.cell 6; have fp7 := hP7.frozen 6; have H8 := Lib.hid (HI.out.1.step (by omega) hb7 hX7); clear hX7 hB7 hb7 hP7)
          | fail)
        go_roundw
        case rel => exact ⟨L.length + 1, _, _, by omega, by go_num, (by have h8 := H8.out; simp only [List.length_append, List.length_cons, List.length_nil, Nat.zero_add] at h8; exact h8), HI.out.2.1 _⟩
        case measure => simp [intOf]; omega
      · obtain rfl : j = mn := by omega
        have hge : ¬ (j : Int) < j := by omega
        obtain ⟨S, hS⟩ : ∃ S : Pe.Shape, { S0 with sigs := (List.range j).map fun k => UInt8.ofNat k :: sig } = S := ⟨_, rfl⟩
        obtain ⟨V2, hV2⟩ : ∃ V2 : ShV, { V1 with sigs := v } = V2 := ⟨_, rfl⟩
        have hsgl : sig.length = ns := HSG.out.len
        have hSs : S.sigs = (List.range j).map fun k => UInt8.ofNat k :: sig := by rw [← hS]
        have ho : S.Ok := by
          rw [← hS]
          have h0 := HN0.out.1
          refine ⟨h0.stub, h0.fill, h0.one, h0.ten, h0.bodies, h0.behind, by show ((List.range j).map _).length ≤ 20; simp; omega, fun q hq => ?_⟩
          obtain ⟨i, _, rfl⟩ := List.mem_map.1 hq
          simp only [List.length_cons]
          omega
        have hol : S.order.length ≤ 1000 := by rw [← hS]; exact HN0.out.2.1
        have hSl : S.sigs.length = j := by rw [hSs]; simp
        have hBw : Bs wr xb V2 := by rw [← hV2]; exact hB.atP
        have hkp : ∀ p : Addr, p.block < xb → wr.cell? p = wm.cell? p := fun p hp => World.cell?_of_block (hB.grown.block p.block (by omega) (fun e => by injection e with e; omega))
        have hsh : ShRd wr wr.heap.size V2 S := by
          have h := (HM0.out.2.1.keep (w' := wr) hkp).more (show xb ≤ wr.heap.size by omega)
          obtain ⟨Al, cl, rfl, hrl⟩ := hB.row.rdl
          rw [← hV2, ← hS]
          exact ⟨h.plus, h.stub, h.fill, h.bodies, h.order, h.behind, ⟨Al, L.length, cl, L, rfl, hrl, hL⟩⟩
        obtain ⟨b, hb⟩ : ∃ b, Pe.write S = b := ⟨_, rfl⟩
        have hpar := S.parse_ ho
        have hread := Pe.Shape.write_read ho
        have hsm := S.write_small ho
        rw [hb] at hpar hread hsm
        have HP := Lib.hid (And.intro hpar (And.intro hSl hSs))
        have H2 := Lib.hid (And.intro hBw (And.intro hsh hbwr))
        have hx2 : xb < wr.heap.size := by omega
        obtain ⟨w2, hw22⟩ : ∃ x, x = wr := ⟨_, rfl⟩
        subst hw22
        obtain ⟨V1, hV12⟩ : ∃ x, x = V2 := ⟨_, rfl⟩
        subst hV12
        clear hpar hBw hkp hsh hB hL hS hV2 hbwr
        by_cases hm8 : (8 : Int) < j
        · have he10 : Pe.err b = 10 := by
            have h1 := HP.out.1
            rw [if_pos (by rw [HP.out.2.1]; omega)] at h1
            exact congrArg Prod.fst h1
          have HN := Lib.hid (And.intro ho (And.intro he10 (And.intro hb hol)))
          clear ho hread he10 hb hol
          go_wp2_with (first
            | ((with_reducible refine at_load_sh ?_); refine wpList_load_sh rfl _ rfl xb V1 rfl H2.out.1 ?_)
            | fail)
          refine (write_any V1 S w2 H2.out.2.1 HN.out.1 HN.out.2.2.2).mono ?_
          rw [HN.out.2.2.1]
          rintro e w3 ⟨A3, n3, c3, rfl, ho3, hb3⟩
          obtain ⟨_, _, _, e3, hr3⟩ := ho3.rd
          injection e3 with q1 q2 q3
          subst q1 q2 q3
          have H3 := Lib.hid (And.intro hr3 (H2.out.2.2.trans (hb3.mono H2.out.2.2.size)))
          clear hr3 hb3 ho3
          go_wp2_with fail
          refine (pe_parse_any A3 n3 c3 b w3 H3.out.1).mono ?_
          rintro e w4 ⟨hb4, C, rfl, hC, _, _⟩
          rw [HN.out.2.1]
          have H4 := Lib.hid (And.intro hC (H3.out.2.trans (hb4.mono H3.out.2.size)))
          clear hb4 hC
          go_upto_region 13 with (first
            | ((with_reducible refine at_store_img ?_); refine wpList_store_img rfl _ _ rfl w4.heap.size IV.zero C rfl rfl (Blk.new w4 _ _) H4.out.1 ?_; intro w5 hB5 hg5)
            | fail)
          have hb45 : Below w4.heap.size w4 w5 := (below_one w4 _).grown hg5 (by simp) (fun k e => by injection e with e; omega)
          have H5 := Lib.hid (H4.out.2.trans (hb45.mono H4.out.2.size))
          clear hB5 hg5 hb45
          go_wp2_with fail
          refine (works_any w5).mono ?_
          rintro e w11 ⟨rfl, hb11⟩
          have H11 := Lib.hid (H5.out.trans (hb11.mono H5.out.size))
          clear hb11
          go_wp2_with fail
          go_ret
          exact ⟨rfl, H11.out⟩
        · have h8 : S.sigs.length ≤ 8 := by have := HP.out.2.1; omega
          obtain ⟨he0, hi0⟩ := Pe.read_err hread ho h8
          have HN := Lib.hid (And.intro ho (And.intro hread (And.intro he0 (And.intro hi0 (And.intro hb (And.intro hol hSs))))))
          clear ho hread he0 hi0 hb hol
          go_wp2_with (first
            | ((with_reducible refine at_load_sh ?_); refine wpList_load_sh rfl _ rfl xb V1 rfl H2.out.1 ?_)
            | fail)
          refine (write_any V1 S w2 H2.out.2.1 HN.out.1 HN.out.2.2.2.2.2.1).mono ?_
          rw [HN.out.2.2.2.2.1]
          rintro e w3 ⟨A3, n3, c3, rfl, ho3, hb3⟩
          obtain ⟨_, _, _, e3, hr3⟩ := ho3.rd
          injection e3 with q1 q2 q3
          subst q1 q2 q3
          have hl3 := hr3.len
          have hbw3 := H2.out.2.2.trans (hb3.mono H2.out.2.2.size)
          have hB3 := H2.out.1.below hb3 hx2
          have hsh3 := (H2.out.2.1.below hb3).more hb3.size
          have hx3 : xb < w3.heap.size := hB3.lt
          have H3 := Lib.hid (And.intro hr3 (And.intro hB3 (And.intro hsh3 hbw3)))
          clear hr3 hb3 hbw3 hB3 hsh3 ho3 H2 hx2
          go_wp2_with fail
          refine (pe_parse_any A3 n3 c3 b w3 H3.out.1).mono ?_
          rintro e w4 ⟨hb4, C, rfl, hC, _, hok⟩
          have hI := hok HN.out.2.2.1
          rw [HN.out.2.2.1]
          have H4 := Lib.hid (And.intro hb4 (And.intro hC hI))
          clear hb4 hC hI hok
          go_upto_region 13 with (first
            | ((with_reducible refine at_store_img ?_); refine wpList_store_img rfl _ _ rfl w4.heap.size IV.zero C rfl rfl (Blk.new w4 _ _) H4.out.2.1 ?_; intro w5 hB5 hg5)
            | fail)
          have hb45 : Below w4.heap.size w4 w5 := (below_one w4 _).grown hg5 (by simp) (fun k e => by injection e with e; omega)
          have hb35 : Below w3.heap.size w3 w5 := H4.out.1.trans (hb45.mono H4.out.1.size)
          have hx5 : xb < w5.heap.size := Nat.lt_of_lt_of_le hx3 hb35.size
          have hi5 : w4.heap.size < w5.heap.size := hB5.lt
          obtain ⟨ib, hib⟩ : ∃ ib, w4.heap.size = ib := ⟨_, rfl⟩
          have hbw5 : Below w.heap.size w w5 := H3.out.2.2.2.trans (hb35.mono H3.out.2.2.2.size)
          have hI5 := H4.out.2.2.later hb45
          have hsn := hI5.sn HN.out.2.2.2.1
          have hF : ∀ W, Below w5.heap.size w5 W → Bs W xb V1 ∧ ShRd W w5.heap.size V1 S ∧ Rd W w5.heap.size A3 n3 c3 b ∧ Bi W ib C ∧ ImgOwn b C w3.heap.size W := fun W hW => by
            have h3W : Below w3.heap.size w3 W := hb35.trans (hW.mono hb35.size)
            exact ⟨H3.out.2.1.below h3W hx3, (H3.out.2.2.1.below h3W).more hb35.size, (H3.out.1.below h3W).more hb35.size, by rw [← hib]; exact hB5.below hW hi5, hI5.later hW⟩
          rw [hib] at hi5 ⊢
          have HF := Lib.hid hF
          have HB := Lib.hid (And.intro hbw5 (And.intro hsn H4.out.2.1))
          clear hF hbw5 hsn hI5 hB5 hg5 hb45 hb35 hx3 hib H3 H4
          obtain ⟨A6, n6, c6, l6, e6, r6, hl6⟩ := (HF.out w5 (Below.refl _ _)).2.1.sigs
          obtain ⟨l7, g7, hl7⟩ := (HF.out w5 (Below.refl _ _)).2.2.2.2.sigs
          obtain ⟨A7, c7, e7, r7⟩ := g7.rdL
          have hs7 : Pe.sigs b = S.sigs := congrArg Pe.Img.sigs HN.out.2.2.2.1
          rw [hs7] at hl7
          have hn6 : n6 = j := by
            have h1 := congrArg List.length hl6
            rw [List.length_map, r6.len, HP.out.2.1] at h1
            exact h1
          have hn7 : l7.length = j := by rw [← HP.out.2.1, ← hl7, List.length_map]
          subst hn6
          rw [hn7] at e7 r7
          obtain ⟨ln, hln⟩ : ∃ x, C.length = x := ⟨_, rfl⟩
          have hll := HB.out.2.1.length
          rw [hln] at hll
          have hf : ∀ W, Below w5.heap.size w5 W → W.cell? ⟨xb, 6, none⟩ = some (.slice A6 n6 c6) ∧ W.cell? ⟨ib, 7, none⟩ = some (.slice A7 n6 c7) ∧ W.cell? ⟨ib, 6, none⟩ = some (.int .u32 (ln : Int)) ∧ RdL W w5.heap.size A6 n6 c6 l6 ∧ RdL W w5.heap.size A7 n6 c7 l7 := fun W hW =>
            ⟨((HF.out W hW).1.cell 6).trans (by rw [← e6]; rfl), ((HF.out W hW).2.2.2.1.cell 7).trans (by show some C.sigs = _; rw [e7]), by rw [← hln]; exact (HF.out W hW).2.2.2.1.cell 6, r6.below hW, r7.below hW⟩
          have hl0 : (ln = 0 ↔ n6 = 0) := by
            rw [hll]
            constructor
            · intro h
              by_cases hs : S.sigs = []
              · rw [← HP.out.2.1, hs]; rfl
              · rw [if_neg hs] at h
                have := (Pe.sigTable_len S.sigs HN.out.1.each).2
                have := HP.out.2.1
                omega
            · intro h
              have hs : S.sigs = [] := List.length_eq_zero_iff.1 (HP.out.2.1.trans h)
              rw [if_pos hs]
          have HL := Lib.hid (And.intro hf (And.intro (hl7.trans hl6.symm) hl0))
          obtain ⟨x6, y7, _, _, _⟩ := hf w5 (Below.refl _ _)
          clear hf r6 r7 g7 hl6 hl7 e6 e7 hs7 hn7 hln hll hl0
          go_upto_region 17 with fail
          clear x6 y7
          go_wp2_with fail
          go_loopw [13] (fun i wr => ∃ q : Nat, q ≤ n6 ∧ i = .int .i64 (q : Int) ∧ Below w5.heap.size w5 wr) (fun i _ => n6 - (intOf i).toNat)
          case atStart => exact ⟨0, Nat.zero_le _, rfl, Below.refl _ _⟩
          case round =>
            obtain ⟨q, hq, rfl, hbq⟩ := hrel
            obtain ⟨x6, y7, y6, r6', q7⟩ := HL.out.1 wr hbq
            by_cases hlq : q < n6
            · have hlq' : (q : Int) < n6 := by omega
              obtain ⟨b1, o1, A, n, c, xs, rfl, hbB, hlk, p1, hrd⟩ := r6'.get hlq
              obtain ⟨b2, o2, A', n', c', xs', rfl, hbB', hlk', t1, hrd'⟩ := q7.get hlq
              have e := congrArg (fun l => l[q]?) HL.out.2.1
              simp only [List.getElem?_map, hlk, hlk', Option.map_some, Option.some.injEq] at e
              subst e
              have HQ := Lib.hid (And.intro hbq (And.intro hrd hrd'))
              clear hbq hrd hrd' r6' q7 hlk hlk' y6
              go_upto_region 20 with fail
              go_quiet ((go_at_call 21; exact Calls.quiet_of_same (eqbytes_same _ _ _ _ _ _ _ _ _ _ (HQ.out.2.2.keep fun _ _ => rfl) (HQ.out.2.1.keep fun _ _ => rfl))))
              go_wp2_with fail
              go_roundw
              case rel => exact ⟨q + 1, by omega, by go_num, below_drewN HQ.out.1 _⟩
              case measure => simp [intOf]; omega
            · obtain rfl : q = n6 := by omega
              have hgq : ¬ (q : Int) < q := by omega
              have hend := HB.out.1.trans (hbq.mono HB.out.1.size)
              have HE := Lib.hid hend
              clear hbq r6' q7 x6 y7 hend
              by_cases hz : q = 0
              · have hz2 := HL.out.2.2.2 hz
                subst hz hz2
                go_wp2_with fail
                refine (works_any wr).mono ?_
                rintro e w11 ⟨rfl, hb11⟩
                have H11 := Lib.hid (HE.out.trans (hb11.mono HE.out.size))
                clear hb11
                go_wp2_with fail
                go_ret
                exact ⟨rfl, H11.out⟩
              · have hz2 : ¬ ln = 0 := fun h => hz (HL.out.2.2.1 h)
                have hz3 : (0 : Int) < ln := by omega
                have hz4 : (0 : Int) < q := by omega
                go_wp2_with fail
                refine (works_any wr).mono ?_
                rintro e w11 ⟨rfl, hb11⟩
                have H11 := Lib.hid (HE.out.trans (hb11.mono HE.out.size))
                clear hb11
                go_wp2_with fail
                go_ret
                exact ⟨rfl, H11.out⟩
  · have hsl' : (200 : Int) < ns := by omega
    go_wp2_with fail
    refine (works_any w2).mono ?_
    rintro e w11 ⟨rfl, hb11⟩
    have H11 := Lib.hid (H2.out.2.2.trans (hb11.mono H2.out.2.2.size))
    clear hb11
    go_wp2_with fail
    go_ret
    exact ⟨rfl, H11.out⟩
end Go.Proofs.YtlfajfmkljnodaaDoor
