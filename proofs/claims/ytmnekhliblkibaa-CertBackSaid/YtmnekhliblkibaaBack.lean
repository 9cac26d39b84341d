/- The walk of the law CertBack. -/
import Derived.Test.YtmnekhliblkibaaGQ
import Derived.Test.YtmnekhliblkibaaGS
import Derived.Test.YtmnekhliblkibaaOpenCase
namespace Go.Proofs.Ytmnekhliblkibaa
open Go.RowKit
set_option maxRecDepth 1000000
set_option linter.unusedVariables false
set_option linter.unusedSimpArgs false

def Kase.row (k : Kase) (v0 v1 v2 : Value) : Array Value := #[v0, v1, v2, .string ⟨k.iss.toArray⟩, .string ⟨k.sub.toArray⟩,
  .int .u16 (k.from_.y : Int), .int .u8 (k.from_.mo : Int), .int .u8 (k.from_.d : Int), .int .u8 (k.from_.h : Int), .int .u8 (k.from_.mi : Int), .int .u8 (k.from_.s : Int),
  .int .u16 (k.to.y : Int), .int .u8 (k.to.mo : Int), .int .u8 (k.to.d : Int), .int .u8 (k.to.h : Int), .int .u8 (k.to.mi : Int), .int .u8 (k.to.s : Int),
  .int .u64 (k.e : Int), .bool k.ca, .bool k.code, .int .u8 (k.path : Int), .int .u8 (k.usage : Int)]
theorem load_case {w : World} {g : Nat} {k : Kase} {v0 v1 v2 : Value} (h : Blk w g 42 (k.row v0 v1 v2)) : (loadVar 42 ⟨g, 0, none⟩).run Try.prog w = .ok (k.val v0 v1 v2) w := by
  have hk := h.cell
  have h0 := run_loadVar_mid (P := Try.prog) w g 0 42 (k.row v0 v1 v2).toList _ (fun j v hv => by rw [Nat.zero_add, hk]; simpa using hv) Try.underlying42 rfl rfl
  exact h0
/-- Fits where the operation at hand loads a whole case. -/
theorem at_load_case {P : Program} {ops : Array Oper} {rest : List Oper} {d : Option Tmp} {ty : TypeId} {pos : String} {af : Array Edge} {g : Option (Nat × Bool)} {x : Operand} {a : Act} {w : World} {Q : Exit → Act → World → Prop}
    (h : wpList P ops Q ({ dst := d, op := .load 42 x, type := ty, pos := pos, after := af, guard := g } :: rest) a w) : wpList P ops Q ({ dst := d, op := .load 42 x, type := ty, pos := pos, after := af, guard := g } :: rest) a w := h
theorem wpList_load_case {ops : Array Oper} {rest : List Oper} {op : Oper} {a : Act} {w : World} {Q : Exit → Act → World → Prop} (hgd : op.guard = none) (x : Operand) (ho : op.op = .load 42 x)
    (g : Nat) (k : Kase) (v0 v1 v2 : Value) (hx : a.eval x = .pointer (some ⟨g, 0, none⟩)) (hB : Blk w g 42 (k.row v0 v1 v2)) (h : wpList Try.prog ops Q rest (a.put op.dst (k.val v0 v1 v2)) w) : wpList Try.prog ops Q (op :: rest) a w := by
  refine wpList_plain hgd fun K hK => ?_
  unfold Oper.wp execOp
  simp only [ho, hx, Instr.loadAt, Instr.sureAddr, Sem.run_bind, Sem.run_pure, Result.andThen_ok, load_case hB]
  exact hK _ _ h
theorem back_large (KV : Value) (cut : Int) (A : Option Addr) (n c : Nat) (w : World) (hn : (100 : Int) < n) (k : Kase) (v0 v1 v2 : Value) (hk : KV = k.val v0 v1 v2) :
    Calls Try.prog 4 #[KV, .int .i64 cut, .slice A n c] w (LawPost w) := by
  subst hk
  unfold Kase.val
  go_enter Try.func4, Try.ntmps4
  go_wp2_with fail
  refine (works12_any _).mono ?_
  rintro e w1 ⟨rfl, hb1⟩
  go_wp2
  go_ret
  exact ⟨rfl, (((Below.refl _ w).alloc (Nat.le_refl _) _).trans (hb1.mono (by simp)))⟩
set_option maxHeartbeats 8000000 in
theorem back_main (k : Kase) (A0 A1 A2 : Option Addr) (n0 c0 n1 c1 n2 c2 : Nat) (cut : Int) (A3 : Option Addr) (n3 c3 : Nat) (more : List UInt8) (w : World) (hk : k.come w A0 A1 A2 n0 c0 n1 c1 n2 c2)
    (h3 : Rd w w.heap.size A3 n3 c3 more) (hn : ¬ (100 : Int) < n3) :
    Calls Try.prog 4 #[k.val (.slice A0 n0 c0) (.slice A1 n1 c1) (.slice A2 n2 c2), .int .i64 cut, .slice A3 n3 c3] w (LawPost w) := by
  have HK := Lib.hid (And.intro hk h3)
  have HM := fun W => made_any k A0 A1 A2 n0 c0 n1 c1 n2 c2 W
  have hKB : Blk (w.alloc (.cells (k.row (.slice A0 n0 c0) (.slice A1 n1 c1) (.slice A2 n2 c2)) 42)) w.heap.size 42 (k.row (.slice A0 n0 c0) (.slice A1 n1 c1) (.slice A2 n2 c2)) := Blk.new w _ _
  have HMW := Lib.hid HM
  clear hk h3 HM
  obtain ⟨KV, hKV⟩ : ∃ KV, KV = k.val (.slice A0 n0 c0) (.slice A1 n1 c1) (.slice A2 n2 c2) := ⟨_, rfl⟩
  have hKV2 : KV = Value.agg (k.row (.slice A0 n0 c0) (.slice A1 n1 c1) (.slice A2 n2 c2)) := hKV
  rw [← hKV]
  obtain ⟨KR_, hKR⟩ : ∃ r, r = k.row (.slice A0 n0 c0) (.slice A1 n1 c1) (.slice A2 n2 c2) := ⟨_, rfl⟩
  rw [← hKR] at hKV2
  subst hKV2
  go_enter Try.func4, Try.ntmps4
  have hb01 : Below w.heap.size w (w.alloc (.cells (k.row (.slice A0 n0 c0) (.slice A1 n1 c1) (.slice A2 n2 c2)) 42)) := (Below.refl _ w).alloc (Nat.le_refl _) _
  have HM1 := HMW.out (w.alloc (.cells (k.row (.slice A0 n0 c0) (.slice A1 n1 c1) (.slice A2 n2 c2)) 42)) (HK.out.1.r0.up hb01) (HK.out.1.r1.up hb01) (HK.out.1.r2.up hb01)
    ⟨by have h1 := HK.out.1.r0.cap; have h2 := HK.out.1.r0.capm; omega, by have h1 := HK.out.1.r1.cap; have h2 := HK.out.1.r1.capm; omega, by have h1 := HK.out.1.r2.cap; have h2 := HK.out.1.r2.capm; omega, HK.out.1.iss, HK.out.1.sub⟩ HK.out.1.from_ HK.out.1.to HK.out.1.e HK.out.1.path HK.out.1.usage
  have hr31 := HK.out.2.up hb01
  have HB01 := Lib.hid (And.intro hb01 hr31)
  clear hb01 hr31 HMW
  go_wp2_with (first
    | ((with_reducible refine at_load_case ?_); refine wpList_load_case rfl _ rfl w.heap.size k (.slice A0 n0 c0) (.slice A1 n1 c1) (.slice A2 n2 c2) rfl hKB ?_)
    | fail)
  refine HM1.mono ?_
  clear HM1 hKB
  rintro en w1 ⟨D, A, n, c, rfl, hob, q1, q2, q3, q4, q5, q6, q7, e1, e2, e3, e4, hb1⟩
  have hbw1 : Below w.heap.size w w1 := HB01.out.1.trans (hb1.mono (by simp))
  have hci : CI w1 D k.raw k.tbs (Ref.name (k.iss.take 200)) (Ref.name (k.sub.take 200)) k.serial k.nn (k.sig.take 600) := ⟨q1, q2, q3, q4, q5, q6, q7⟩
  have hone := hci.one
  have hob1 : OwnB w1 w.heap.size w1.heap.size (.slice A n c) k.raw := hob.mono (by simp) (Nat.le_refl _)
  have H1 := Lib.hid (And.intro hob1 (And.intro hci (And.intro e1 (And.intro e2 (And.intro e3 (And.intro e4 hbw1))))))
  clear hob hob1 q1 q2 q3 q4 q5 q6 q7 e1 e2 e3 e4 hb1 hbw1 hci
  go_wp2_with (first
    | ((with_reducible refine at_store_cert ?_); refine wpList_store_cert rfl _ _ rfl w1.heap.size CV.zero D rfl rfl (Blk.new w1 _ _) hone ?_; intro w2 hB2 hg2)
    | fail)
  have hg12 : Below w1.heap.size w1 w2 := below_grow ((Below.refl _ w1).alloc (Nat.le_refl _) _) hg2 (Nat.le_refl _) (Nat.le_refl _)
  have hs12 := H1.out.2.2.2.2.2.2.size
  have hob2 : OwnB w2 w.heap.size w2.heap.size (.slice A n c) k.raw := (H1.out.1.below hg12 (Nat.le_refl _)).mono (Nat.le_refl _) hg12.size
  obtain ⟨P0, P1, P2, hpe, hP⟩ := RdT.own (hob2.mono (Nat.le_refl _) (Nat.le_refl _))
  injection hpe with p1 p2 p3
  subst p1 p2 p3
  have hrA := hP.1
  have hnl : n ≤ 4700 := by have h1 := hrA.len; have h2 := kase_rlen k; omega
  have hci2 := H1.out.2.1.below hg12
  have hbw2 := H1.out.2.2.2.2.2.2.trans (hg12.mono hs12)
  have hkp := kase_parse k HK.out.1.path HK.out.1.usage
  refine (parse_cert_any A n c _ w2 hrA).mono ?_
  rintro en w3 ⟨hb3, ⟨m, hm, _⟩ | ⟨s', g', vr, vt, vi, vs, ve, vn, vg, hyes, rfl, hown, _⟩⟩
  · rw [hkp] at hm; cases hm
  rw [hkp] at hyes
  injection hyes with y1 y2
  subst y1 y2
  have hc3 := CI.parsed (s := k.sg) hown
  have hone3 := hc3.one
  have hci3 := hci2.below hb3
  have hB3 := hB2.below hb3 hB2.lt
  have hob3 : OwnB w3 w.heap.size w3.heap.size (.slice A n c) k.raw := (hob2.below hb3 (Nat.le_refl _)).mono (Nat.le_refl _) hb3.size
  have hbw3 := hbw2.trans (hb3.mono hbw2.size)
  have H3 := Lib.hid (And.intro hc3 (And.intro hci3 (And.intro hbw3 (And.intro hB3 hob3))))
  clear hown hb3 hc3 hci3 hbw3 hbw2 hci2 hrA hP hone hg12 hg2 hB2 hB3 hob2 hob3 hkp
  go_upto_region 5 with (first
    | ((with_reducible refine at_store_cert ?_); refine wpList_store_cert rfl _ _ rfl w3.heap.size CV.zero (k.sg.cv vr vt vi vs ve vn vg) rfl rfl (Blk.new w3 _ _) hone3 ?_; intro w4 hB4 hg4)
    | fail)
  have hg34 : Below w3.heap.size w3 w4 := below_grow ((Below.refl _ w3).alloc (Nat.le_refl _) _) hg4 (Nat.le_refl _) (Nat.le_refl _)
  have hob4 : OwnB w4 w.heap.size w4.heap.size (.slice A n c) k.raw := (H3.out.2.2.2.2.below hg34 (Nat.le_refl _)).mono (Nat.le_refl _) hg34.size
  have H4 := Lib.hid (And.intro (H3.out.1.below hg34) (And.intro (H3.out.2.1.below hg34) (And.intro (H3.out.2.2.1.trans (hg34.mono H3.out.2.2.1.size)) (And.intro (H3.out.2.2.2.1.below hg34 H3.out.2.2.2.1.lt) (And.intro hB4 hob4)))))
  have HSM : ∀ W, Below w4.heap.size w4 W → Calls Try.prog 18 #[D.val, (k.sg.cv vr vt vi vs ve vn vg).val] W fun e w' => e = .returned (.bool true) ∧ Below W.heap.size W w' := fun W hW =>
    CI.same (H4.out.2.1.below hW) (H4.out.1.below hW) H1.out.2.2.1 H1.out.2.2.2.1 H1.out.2.2.2.2.1 H1.out.2.2.2.2.2.1
  clear hg34 hg4 hob4 hB4 H3 hone3
  refine wp_region_seq ?VS (Below w4.heap.size w4) (fun w w' h1 h2 => h1.trans (h2.mono h1.size)) ?hd ?hA (Below.refl _ _) ?hs ?hdone
  case VS => exact fun i => ([.int .i64 0, .bool false, .bool false, D.val, (k.sg.cv vr vt vi vs ve vn vg).val, .bool true, .bool false, .bool false] : List Value).getD i undef
  case hd => show dstsOk _ 67 = true; decide +kernel
  case hA => decide +kernel
  case hs =>
    refine ⟨?_, ?_, ?_, ?_, ?_, ?_, ?_, ?_, trivial⟩
    · exact VStep.run (by simp) rfl (fun a W hfr hdep hG => V_move rfl (hfr 10 (by decide +kernel)))
    · exact VStep.run (by simp) rfl (fun a W hfr hdep hG => V_val (by have e1 : a.eval (.tmp 25) = .int .i64 0 := (hdep 0 (by decide +kernel)); simp only [execOp, e1]; simp [go_sem]))
    · exact VStep.run (by simp) rfl (fun a W hfr hdep hG => V_move rfl (hdep 1 (by decide +kernel)))
    · exact VStep.yes 2 false (by simp) rfl (by decide +kernel) rfl (fun a W hfr hdep hG => V_load rfl (hfr 7 (by decide +kernel)) (load_cert (H4.out.2.2.2.1.below hG H4.out.2.2.2.1.lt)))
    · exact VStep.yes 2 false (by simp) rfl (by decide +kernel) rfl (fun a W hfr hdep hG => V_load rfl (hfr 9 (by decide +kernel)) (load_cert (H4.out.2.2.2.2.1.below hG H4.out.2.2.2.2.1.lt)))
    · exact VStep.yes 2 false (by simp) rfl (by decide +kernel) rfl (fun a W hfr hdep hG => V_call rfl Try.func18 rfl (by decide) (args := #[D.val, (k.sg.cv vr vt vi vs ve vn vg).val]) (by have e1 : a.eval (.tmp 28) = D.val := (hdep 3 (by decide +kernel)); have e2 : a.eval (.tmp 29) = (k.sg.cv vr vt vi vs ve vn vg).val := (hdep 4 (by decide +kernel)); simp [e1, e2]) (HSM W hG) (fun e w hR => hR))
    · exact VStep.yes 2 false (by simp) rfl (by decide +kernel) rfl (fun a W hfr hdep hG => V_val (by have e1 : a.eval (.tmp 30) = .bool true := (hdep 5 (by decide +kernel)); simp only [execOp, e1]; simp [go_sem]))
    · exact VStep.run (by simp) rfl (fun a W hfr hdep hG => V_pick rfl (b := false) (hdep 2 (by decide +kernel)) (hdep 6 (by decide +kernel)))
  case hdone =>
    intro a W hdf hsz hfr hG hJ
    have e := arr_eta a 67 hsz hdf
    rw [show (List.range 67).map (fun i => a.eval (.tmp i)) = a.eval (.tmp 0) :: a.eval (.tmp 1) :: a.eval (.tmp 2) :: a.eval (.tmp 3) :: a.eval (.tmp 4) :: a.eval (.tmp 5) :: a.eval (.tmp 6) :: a.eval (.tmp 7) :: a.eval (.tmp 8) :: a.eval (.tmp 9) :: a.eval (.tmp 10) :: a.eval (.tmp 11) :: a.eval (.tmp 12) :: a.eval (.tmp 13) :: a.eval (.tmp 14) :: a.eval (.tmp 15) :: a.eval (.tmp 16) :: a.eval (.tmp 17) :: a.eval (.tmp 18) :: a.eval (.tmp 19) :: a.eval (.tmp 20) :: a.eval (.tmp 21) :: a.eval (.tmp 22) :: a.eval (.tmp 23) :: a.eval (.tmp 24) :: a.eval (.tmp 25) :: a.eval (.tmp 26) :: a.eval (.tmp 27) :: a.eval (.tmp 28) :: a.eval (.tmp 29) :: a.eval (.tmp 30) :: a.eval (.tmp 31) :: a.eval (.tmp 32) :: a.eval (.tmp 33) :: a.eval (.tmp 34) :: a.eval (.tmp 35) :: a.eval (.tmp 36) :: a.eval (.tmp 37) :: a.eval (.tmp 38) :: a.eval (.tmp 39) :: a.eval (.tmp 40) :: a.eval (.tmp 41) :: a.eval (.tmp 42) :: a.eval (.tmp 43) :: a.eval (.tmp 44) :: a.eval (.tmp 45) :: a.eval (.tmp 46) :: a.eval (.tmp 47) :: a.eval (.tmp 48) :: a.eval (.tmp 49) :: a.eval (.tmp 50) :: a.eval (.tmp 51) :: a.eval (.tmp 52) :: a.eval (.tmp 53) :: a.eval (.tmp 54) :: a.eval (.tmp 55) :: a.eval (.tmp 56) :: a.eval (.tmp 57) :: a.eval (.tmp 58) :: a.eval (.tmp 59) :: a.eval (.tmp 60) :: a.eval (.tmp 61) :: a.eval (.tmp 62) :: a.eval (.tmp 63) :: a.eval (.tmp 64) :: a.eval (.tmp 65) :: a.eval (.tmp 66) :: [] from rfl] at e
    rw [show a.eval (.tmp 32) = .bool false from hJ 7 (by decide)] at e
    rw [show a.eval (.tmp 1) = .int .i64 cut from hfr 1 (by decide +kernel)] at e
    rw [show a.eval (.tmp 2) = .slice A3 n3 c3 from hfr 2 (by decide +kernel)] at e
    rw [show a.eval (.tmp 6) = .bool false from hfr 6 (by decide +kernel)] at e
    rw [show a.eval (.tmp 8) = .slice A n c from hfr 8 (by decide +kernel)] at e
    generalize a.eval (.tmp 0) = u0 at e
    generalize a.eval (.tmp 3) = u3 at e
    generalize a.eval (.tmp 4) = u4 at e
    generalize a.eval (.tmp 5) = u5 at e
    generalize a.eval (.tmp 7) = u7 at e
    generalize a.eval (.tmp 9) = u9 at e
    generalize a.eval (.tmp 10) = u10 at e
    generalize a.eval (.tmp 11) = u11 at e
    generalize a.eval (.tmp 12) = u12 at e
    generalize a.eval (.tmp 13) = u13 at e
    generalize a.eval (.tmp 14) = u14 at e
    generalize a.eval (.tmp 15) = u15 at e
    generalize a.eval (.tmp 16) = u16 at e
    generalize a.eval (.tmp 17) = u17 at e
    generalize a.eval (.tmp 18) = u18 at e
    generalize a.eval (.tmp 19) = u19 at e
    generalize a.eval (.tmp 20) = u20 at e
    generalize a.eval (.tmp 21) = u21 at e
    generalize a.eval (.tmp 22) = u22 at e
    generalize a.eval (.tmp 23) = u23 at e
    generalize a.eval (.tmp 24) = u24 at e
    generalize a.eval (.tmp 25) = u25 at e
    generalize a.eval (.tmp 26) = u26 at e
    generalize a.eval (.tmp 27) = u27 at e
    generalize a.eval (.tmp 28) = u28 at e
    generalize a.eval (.tmp 29) = u29 at e
    generalize a.eval (.tmp 30) = u30 at e
    generalize a.eval (.tmp 31) = u31 at e
    generalize a.eval (.tmp 33) = u33 at e
    generalize a.eval (.tmp 34) = u34 at e
    generalize a.eval (.tmp 35) = u35 at e
    generalize a.eval (.tmp 36) = u36 at e
    generalize a.eval (.tmp 37) = u37 at e
    generalize a.eval (.tmp 38) = u38 at e
    generalize a.eval (.tmp 39) = u39 at e
    generalize a.eval (.tmp 40) = u40 at e
    generalize a.eval (.tmp 41) = u41 at e
    generalize a.eval (.tmp 42) = u42 at e
    generalize a.eval (.tmp 43) = u43 at e
    generalize a.eval (.tmp 44) = u44 at e
    generalize a.eval (.tmp 45) = u45 at e
    generalize a.eval (.tmp 46) = u46 at e
    generalize a.eval (.tmp 47) = u47 at e
    generalize a.eval (.tmp 48) = u48 at e
    generalize a.eval (.tmp 49) = u49 at e
    generalize a.eval (.tmp 50) = u50 at e
    generalize a.eval (.tmp 51) = u51 at e
    generalize a.eval (.tmp 52) = u52 at e
    generalize a.eval (.tmp 53) = u53 at e
    generalize a.eval (.tmp 54) = u54 at e
    generalize a.eval (.tmp 55) = u55 at e
    generalize a.eval (.tmp 56) = u56 at e
    generalize a.eval (.tmp 57) = u57 at e
    generalize a.eval (.tmp 58) = u58 at e
    generalize a.eval (.tmp 59) = u59 at e
    generalize a.eval (.tmp 60) = u60 at e
    generalize a.eval (.tmp 61) = u61 at e
    generalize a.eval (.tmp 62) = u62 at e
    generalize a.eval (.tmp 63) = u63 at e
    generalize a.eval (.tmp 64) = u64 at e
    generalize a.eval (.tmp 65) = u65 at e
    generalize a.eval (.tmp 66) = u66 at e
    subst e
    clear hfr hJ hsz hdf
    have hob5 : OwnB W w.heap.size W.heap.size (.slice A n c) k.raw := (H4.out.2.2.2.2.2.below hG (Nat.le_refl _)).mono (Nat.le_refl _) hG.size
    have hbW : Below w.heap.size w W := H4.out.2.2.1.trans (hG.mono H4.out.2.2.1.size)
    have H5 := Lib.hid (And.intro hob5 hbW)
    clear hG H4 HSM hob5 hbW
    rcases Int.lt_or_le cut 0 with hlt0 | hge0
    · have hcut : ¬ (0 : Int) ≤ cut := by omega
      go_upto_region 11 with fail
      rcases Nat.eq_zero_or_pos n3 with hz3 | hz3
      · subst hz3
        have hz3' : ¬ ((0 : Nat) : Int) > 0 := by omega
        go_wp2_with fail
        refine (works12_any _).mono ?_
        rintro e wz ⟨rfl, hbz⟩
        go_wp2
        go_ret
        exact ⟨rfl, H5.out.2.trans (hbz.mono H5.out.2.size)⟩
      · have hz3' : (n3 : Int) > 0 := by omega
        have hr3 := HK.out.2.up H5.out.2
        go_wp2_with (first
          | (at_builtin; refine wpList_app rfl (.tmp 53) (.tmp 54) rfl w.heap.size W.heap.size _ k.raw rfl H5.out.1 H5.out.2.size W.heap.size A3 n3 c3 more rfl hr3.rds (by have := hr3.len; have := kase_rlen k; omega) ?_; intro v' wa howa hga hora hba; obtain ⟨A', n', c', rfl, hra⟩ := howa.rd)
          | fail)
        refine (parse_cert_any A' n' c' _ wa hra).mono ?_
        have hmore := kase_more k HK.out.1.path HK.out.1.usage (more := more) (by intro e; have h1 := hr3.len; rw [e] at h1; simp at h1; omega) (by have := hr3.len; omega)
        rintro en wb ⟨hbb, ⟨m2, hm2, _, rfl⟩ | ⟨s2, g2, _, _, _, _, _, _, _, hyes2, _⟩⟩
        rotate_left
        · rw [hmore] at hyes2; cases hyes2
        rw [hmore] at hm2
        injection hm2 with hm2
        subst hm2
        go_wp2_with fail
        refine (works12_any _).mono ?_
        rintro e wz ⟨rfl, hbz⟩
        go_wp2
        go_ret
        have hbwa : Below w.heap.size w wa := H5.out.2.trans hba
        have hbwb := hbwa.trans (hbb.mono hbwa.size)
        exact ⟨rfl, hbwb.trans (hbz.mono hbwb.size)⟩
    · obtain ⟨mc, rfl⟩ := Int.eq_ofNat_of_zero_le hge0
      rcases Nat.lt_or_ge mc n with hcn | hcn
      · have hcn' : (mc : Int) < n := by omega
        have hcn0 : (0 : Int) ≤ (mc : Int) := by omega
        have hrW := (RdT.own (H5.out.1.mono (Nat.le_refl _) (Nat.le_refl _)))
        obtain ⟨P0, P1, P2, hpe, hP⟩ := hrW
        injection hpe with p1 p2 p3
        subst p1 p2 p3
        have hcap := hP.1.cap
        have hcapm := hP.1.capm
        obtain ⟨b0, o0, rfl, _⟩ := hP.1.spot (by omega)
        have hRc := hP.1.pre mc (by omega)
        have hlc : mc < k.raw.length := by have := hP.1.len; omega
        have hcutp := kase_cut k HK.out.1.path HK.out.1.usage hlc
        clear hP
        go_wp2_with fail
        refine (parse_cert_any (some ⟨b0, o0, none⟩) mc c _ _ hRc).mono ?_
        rintro en w6 ⟨hb6, ⟨m1, hm1, _, rfl⟩ | ⟨s2, g2, _, _, _, _, _, _, _, hyes2, _⟩⟩
        rotate_left
        · rw [hcutp] at hyes2; cases hyes2
        rw [hcutp] at hm1
        injection hm1 with hm1
        subst hm1
        have hob6 : OwnB w6 w.heap.size w6.heap.size (.slice (some ⟨b0, o0, none⟩) n c) k.raw := (H5.out.1.below hb6 (Nat.le_refl _)).mono (Nat.le_refl _) hb6.size
        have H6 := Lib.hid (And.intro hob6 (H5.out.2.trans (hb6.mono H5.out.2.size)))
        clear hob6 hb6 hRc hcutp H5
        go_upto_region 11 with fail
        rcases Nat.eq_zero_or_pos n3 with hz3 | hz3
        · subst hz3
          have hz3' : ¬ ((0 : Nat) : Int) > 0 := by omega
          go_wp2_with fail
          refine (works12_any _).mono ?_
          rintro e wz ⟨rfl, hbz⟩
          go_wp2
          go_ret
          exact ⟨rfl, H6.out.2.trans (hbz.mono H6.out.2.size)⟩
        · have hz3' : (n3 : Int) > 0 := by omega
          have hr3 := HK.out.2.up H6.out.2
          go_wp2_with (first
            | (at_builtin; refine wpList_app rfl (.tmp 53) (.tmp 54) rfl w.heap.size w6.heap.size _ k.raw rfl H6.out.1 H6.out.2.size w6.heap.size A3 n3 c3 more rfl hr3.rds (by have := hr3.len; have := kase_rlen k; omega) ?_; intro v' wa howa hga hora hba; obtain ⟨A', n', c', rfl, hra⟩ := howa.rd)
            | fail)
          refine (parse_cert_any A' n' c' _ wa hra).mono ?_
          have hmore := kase_more k HK.out.1.path HK.out.1.usage (more := more) (by intro e; have h1 := hr3.len; rw [e] at h1; simp at h1; omega) (by have := hr3.len; omega)
          rintro en wb ⟨hbb, ⟨m2, hm2, _, rfl⟩ | ⟨s2, g2, _, _, _, _, _, _, _, hyes2, _⟩⟩
          rotate_left
          · rw [hmore] at hyes2; cases hyes2
          rw [hmore] at hm2
          injection hm2 with hm2
          subst hm2
          go_wp2_with fail
          refine (works12_any _).mono ?_
          rintro e wz ⟨rfl, hbz⟩
          go_wp2
          go_ret
          have hbwa : Below w.heap.size w wa := H6.out.2.trans hba
          have hbwb := hbwa.trans (hbb.mono hbwa.size)
          exact ⟨rfl, hbwb.trans (hbz.mono hbwb.size)⟩
      · have hcn' : ¬ (mc : Int) < n := by omega
        have hcn0 : (0 : Int) ≤ (mc : Int) := by omega
        go_upto_region 11 with fail
        rcases Nat.eq_zero_or_pos n3 with hz3 | hz3
        · subst hz3
          have hz3' : ¬ ((0 : Nat) : Int) > 0 := by omega
          go_wp2_with fail
          refine (works12_any _).mono ?_
          rintro e wz ⟨rfl, hbz⟩
          go_wp2
          go_ret
          exact ⟨rfl, H5.out.2.trans (hbz.mono H5.out.2.size)⟩
        · have hz3' : (n3 : Int) > 0 := by omega
          have hr3 := HK.out.2.up H5.out.2
          go_wp2_with (first
            | (at_builtin; refine wpList_app rfl (.tmp 53) (.tmp 54) rfl w.heap.size W.heap.size _ k.raw rfl H5.out.1 H5.out.2.size W.heap.size A3 n3 c3 more rfl hr3.rds (by have := hr3.len; have := kase_rlen k; omega) ?_; intro v' wa howa hga hora hba; obtain ⟨A', n', c', rfl, hra⟩ := howa.rd)
            | fail)
          refine (parse_cert_any A' n' c' _ wa hra).mono ?_
          have hmore := kase_more k HK.out.1.path HK.out.1.usage (more := more) (by intro e; have h1 := hr3.len; rw [e] at h1; simp at h1; omega) (by have := hr3.len; omega)
          rintro en wb ⟨hbb, ⟨m2, hm2, _, rfl⟩ | ⟨s2, g2, _, _, _, _, _, _, _, hyes2, _⟩⟩
          rotate_left
          · rw [hmore] at hyes2; cases hyes2
          rw [hmore] at hm2
          injection hm2 with hm2
          subst hm2
          go_wp2_with fail
          refine (works12_any _).mono ?_
          rintro e wz ⟨rfl, hbz⟩
          go_wp2
          go_ret
          have hbwa : Below w.heap.size w wa := H5.out.2.trans hba
          have hbwb := hbwa.trans (hbb.mono hbwa.size)
          exact ⟨rfl, hbwb.trans (hbz.mono hbwb.size)⟩

theorem certBack_walk (w : World) (k : Kase) (A0 A1 A2 : Option Addr) (n0 c0 n1 c1 n2 c2 : Nat) (hk : k.come w A0 A1 A2 n0 c0 n1 c1 n2 c2) (cut : Int) (_ : (Lit.int .i64 cut).wf = true) (A3 : Option Addr) (n3 c3 : Nat) (more : List UInt8) (h3 : Rd w w.heap.size A3 n3 c3 more) :
    Calls Try.prog 4 #[k.val (.slice A0 n0 c0) (.slice A1 n1 c1) (.slice A2 n2 c2), .int .i64 cut, .slice A3 n3 c3] w fun e w' => e = .returned (.bool true) ∧ Below w.heap.size w w' := by
  by_cases hn : (100 : Int) < n3
  · exact back_large _ cut A3 n3 c3 w hn k _ _ _ rfl
  · exact back_main k A0 A1 A2 n0 c0 n1 c1 n2 c2 cut A3 n3 c3 more w hk h3 hn
end Go.Proofs.Ytmnekhliblkibaa
