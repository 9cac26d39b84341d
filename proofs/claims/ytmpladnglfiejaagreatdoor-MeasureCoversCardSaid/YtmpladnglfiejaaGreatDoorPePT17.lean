/- Parse: is there a certificate table? -/
import Derived.Test.YtmpladnglfiejaaGreatDoorPePT19
namespace Go.Proofs.YtmpladnglfiejaaGreatDoor
open Go.RowKit Go.Shelf
attribute [local go_sem] Oper.semAt_some
set_option maxRecDepth 100000
set_option linter.unusedVariables false
set_option linter.unusedSimpArgs false

noncomputable def pTail17 : Code := tailOf 17 (codeOf Tryz.f32)
set_option maxHeartbeats 4000000 in
theorem parse_tail17 {w : World} {g n c pe many size magic dirs kd hdrs m1 c1 en fr ln hi : Nat} {A A1 : Option Addr} {xs : List UInt8} {la plus : Bool} (k : KB xs n pe dirs hdrs m1 en fr ln la plus) (hr : Rd w g A n c xs) (hn : n ≤ 16777216) (hgl0 : g < w.heap.size)
    (w15 : World) (h15 : PB w g w.heap.size (.slice A n c) la {IV.zero with plus := plus, check := pe + 88, dir := dirs + 32, headers := hdrs, secs := .slice A1 m1 c1} xs hi m1 w15) (u16 u17 u18 u19 u20 u21 u22 u23 u24 u25 u26 u27 u28 u29 u30 u31 u32 u33 u34 u35 u36 u37 u38 u39 u40 u41 u42 u43 u44 u45 u46 u47 u48 u49 u50 u51 u52 u53 u54 u55 u56 u57 u58 u59 u60 u61 u62 u63 u64 u65 u66 u67 u68 u69 u70 u71 u72 u73 u74 u75 u76 u77 u78 u79 u80 u81 u82 u83 u84 u85 u86 u87 u88 u89 u90 u91 u92 u93 u94 u95 u96 u97 u98 u99 u100 u101 u102 u103 u104 u105 u106 u107 u108 u109 u110 u111 u112 u113 u114 u115 u116 u117 u118 u119 u120 u121 u122 u123 u124 u125 u126 u127 u128 u129 u130 u131 u132 u133 u134 u135 u136 u137 u138 u139 u140 u141 u142 u143 u144 u145 u146 u147 u148 u149 u150 u151 u152 u153 u154 u155 u156 u157 u158 u159 u160 u161 u162 u163 u164 u165 u166 u167 u168 u169 u170 u171 u172 u173 u174 u175 u176 u177 u178 u179 u180 u181 u182 u183 u184 u185 u186 u187 u188 u189 u190 u191 u192 u193 u194 u195 u196 u197 u198 u199 u200 : Value) :
    pTail17.wp Tryz.prog (bodyPostM Fence.wide 5 Tryz.prog Tryz.f32 (ParsePost g (.slice A n c) xs w)) { tmps := (Value.pointer (some ⟨g, 0, none⟩) :: undef :: Value.pointer (some ⟨w.heap.size, 0, none⟩) :: Value.int .i64 (pe : Int) :: Value.int .i64 ((pe : Int) + 24) :: Value.int .i64 (many : Int) :: Value.int .i64 (size : Int) :: Value.int .i64 (magic : Int) :: Value.int .i64 (dirs : Int) :: Value.int .i64 (kd : Int) :: Value.int .i64 (hdrs : Int) :: Value.int .i64 ((pe : Int) + 24 + (size : Int)) :: Value.slice A1 m1 c1 :: Value.int .i64 (en : Int) :: Value.int .i64 (fr : Int) :: Value.int .i64 (ln : Int) :: u16 :: u17 :: u18 :: u19 :: u20 :: u21 :: u22 :: u23 :: u24 :: u25 :: u26 :: u27 :: u28 :: u29 :: u30 :: u31 :: u32 :: u33 :: u34 :: u35 :: u36 :: u37 :: u38 :: u39 :: u40 :: u41 :: u42 :: u43 :: u44 :: u45 :: u46 :: u47 :: u48 :: u49 :: u50 :: u51 :: u52 :: u53 :: u54 :: u55 :: u56 :: u57 :: u58 :: u59 :: u60 :: u61 :: u62 :: u63 :: u64 :: u65 :: u66 :: u67 :: u68 :: u69 :: u70 :: u71 :: u72 :: u73 :: u74 :: u75 :: u76 :: u77 :: u78 :: u79 :: u80 :: u81 :: u82 :: u83 :: u84 :: u85 :: u86 :: u87 :: u88 :: u89 :: u90 :: u91 :: u92 :: u93 :: u94 :: u95 :: u96 :: u97 :: u98 :: u99 :: u100 :: u101 :: u102 :: u103 :: u104 :: u105 :: u106 :: u107 :: u108 :: u109 :: u110 :: u111 :: u112 :: u113 :: u114 :: u115 :: u116 :: u117 :: u118 :: u119 :: u120 :: u121 :: u122 :: u123 :: u124 :: u125 :: u126 :: u127 :: u128 :: u129 :: u130 :: u131 :: u132 :: u133 :: u134 :: u135 :: u136 :: u137 :: u138 :: u139 :: u140 :: u141 :: u142 :: u143 :: u144 :: u145 :: u146 :: u147 :: u148 :: u149 :: u150 :: u151 :: u152 :: u153 :: u154 :: u155 :: u156 :: u157 :: u158 :: u159 :: u160 :: u161 :: u162 :: u163 :: u164 :: u165 :: u166 :: u167 :: u168 :: u169 :: u170 :: u171 :: u172 :: u173 :: u174 :: u175 :: u176 :: u177 :: u178 :: u179 :: u180 :: u181 :: u182 :: u183 :: u184 :: u185 :: u186 :: u187 :: u188 :: u189 :: u190 :: u191 :: u192 :: u193 :: u194 :: u195 :: u196 :: u197 :: u198 :: u199 :: u200 :: []).toArray, defers := [] } w15 := by
  have hgl := hgl0
  have hl := k.len
  have hpel := k.pel
  have hdb := k.dirsl
  have hhdrsl := k.hdrsl
  have hend := k.enl
  have hfrl := k.frl
  have hlnl := k.lnl
  have H := Lib.hid (And.intro hr trivial)
  have H1 := Lib.hid (And.intro trivial k.pe_)
  have H7 := Lib.hid (And.intro trivial k.plus_)
  have HD := Lib.hid (And.intro trivial k.dirs_)
  have HTH := Lib.hid (And.intro trivial k.head_)
  have HS := Lib.hid (And.intro trivial (And.intro k.hdrs_ trivial))
  have H14 := Lib.hid (And.intro trivial (And.intro k.secs_ (And.intro k.end_ k.laid_)))
  have HG := Lib.hid (And.intro trivial (And.intro trivial (And.intro k.from_ k.length_)))
  have H15 := Lib.hid h15
  have HK := Lib.hid (And.intro k hr)
  clear h15 k hr
  generalize hQ : bodyPostM Fence.wide 5 Tryz.prog Tryz.f32 (ParsePost g (.slice A n c) xs w) = Q
  unfold pTail17 codeOf
  simp only [Tryz.f32, tailOf, Option.getD_some]
  subst hQ
  refine wp_seq_k fun K hK => ?_
  obtain ⟨ba, hba⟩ : ∃ b, Pe.bare xs = b := ⟨_, rfl⟩
  have hfrx : Pe.from_ xs = fr := by unfold Pe.from_; rw [HD.out.2]; exact HG.out.2.2.1
  have hlnx : Pe.length xs = ln := by unfold Pe.length; rw [HD.out.2]; exact HG.out.2.2.2
  have hbz : ba = (((fr : Int) == 0) && ((ln : Int) == 0)) := by
    rw [← hba]
    unfold Pe.bare
    rw [hfrx, hlnx, show (0 : Int) = ((0 : Nat) : Int) from rfl, int_beq, int_beq]
  have HB := Lib.hid (And.intro hba (And.intro hfrx hlnx))
  clear hba hfrx hlnx
  obtain ⟨z1, hz1⟩ : ∃ b, ((fr : Int) == 0) = b := ⟨_, rfl⟩
  obtain ⟨z2, hz2⟩ : ∃ b, ((ln : Int) == 0) = b := ⟨_, rfl⟩
  rw [hz1, hz2] at hbz
  have HZ := Lib.hid hbz
  clear hbz
  go_cut [] from 17 (fun wx => wx = w15 ∧ ba = false)
  case first =>
    cases z1
    · go_wp2_with fail
      go_meet
      exact ⟨rfl, HZ.out⟩
    · cases z2
      · go_wp2_with fail
        go_meet
        exact ⟨rfl, HZ.out⟩
      · go_wp2_with (first
          | ((with_reducible refine at_load_img ?_); refine wpList_load_img rfl _ rfl w.heap.size _ rfl H15.out.pa.im ?_)
          | ((with_reducible refine at_store_img ?_); refine wpList_store_img rfl _ _ rfl w.heap.size _ {IV.zero with plus := plus, check := pe + 88, dir := dirs + 32, headers := hdrs, secs := .slice A1 m1 c1} rfl rfl H15.out.pa.im ⟨⟨_, _, _, rfl⟩, ⟨_, _, _, rfl⟩⟩ ?_; intro wz hBz hgz)
          | fail)
        have h := H15.out.store hBz rfl hgz
        have e : Pe.fine xs = la := by unfold Pe.fine Pe.signed; rw [HTH.out.2, H14.out.2.2.2, HB.out.1, HZ.out]; simp
        refine ⟨_, results_cell1 Tryz.results32 _ _ _ _ _ rfl (load_img hBz), _, rfl, ?_, ⟨⟨_, _, _, rfl⟩, ⟨_, _, _, rfl⟩⟩, fun hf => ⟨?_, ?_, [], ?_, ?_⟩⟩
        · rw [e]; exact ⟨h.pa.rd, h.pa.grown⟩
        · have e1 : Pe.opt xs = pe + 24 := by unfold Pe.opt Pe.pe; rw [H1.out.2]
          refine ⟨H7.out.2.symm, ?_, by rw [HD.out.2], HS.out.2.1.symm, ?_, ?_⟩
          · rw [e1]
          · rw [HB.out.1, HZ.out]; rfl
          · rw [HB.out.1, HZ.out]; rfl
        · rw [H14.out.2.1]
          exact h.secs.mono (Nat.le_refl _) h.hi_
        · exact Sgs.nil_ _ _
        · unfold Pe.sigs
          rw [HB.out.1, HZ.out]; rfl
  obtain ⟨rfl, hba⟩ := hcut
  clear hz1 hz2
  obtain ⟨w15, hw15⟩ : ∃ w15, w15 = wc := ⟨_, rfl⟩
  subst hw15
  go_upto_region 21 with fail
  obtain ⟨ft, hft⟩ : ∃ b, (la && Pe.tabled xs) = b := ⟨_, rfl⟩
  have htb : ft = (la && (decide (0 < ln) && (fr % 8 == 0) && decide (en ≤ fr) && (fr + ln == n))) := by
    rw [← hft]
    unfold Pe.tabled
    rw [HB.out.2.1, HB.out.2.2, H14.out.2.2.1, hl]
  have HT := Lib.hid (And.intro htb hft)
  clear htb hft
  go_cut [] from 17 (fun wx => PB w g w.heap.size (.slice A n c) ft {IV.zero with plus := plus, check := pe + 88, dir := dirs + 32, headers := hdrs, secs := .slice A1 m1 c1} xs hi m1 wx)
  case first =>
    have hfin : ∀ ok wx, ok = (decide (0 < ln) && (fr % 8 == 0) && decide (en ≤ fr) && (fr + ln == n)) → PB w g w.heap.size (.slice A n c) (la && ok) {IV.zero with plus := plus, check := pe + 88, dir := dirs + 32, headers := hdrs, secs := .slice A1 m1 c1} xs hi m1 wx → PB w g w.heap.size (.slice A n c) ft {IV.zero with plus := plus, check := pe + 88, dir := dirs + 32, headers := hdrs, secs := .slice A1 m1 c1} xs hi m1 wx := fun ok wx e hp => by
      rw [HT.out.1, ← e]; exact hp
    have HFIN := Lib.hid hfin
    have q0 : w15.cell? ⟨g, 0, none⟩ = some (.slice A n c) := (H15.out.pa.rd.facts).1 0
    clear hfin
    have hmod : Int.tmod (fr : Int) 8 = ((fr % 8 : Nat) : Int) := rfl
    obtain ⟨r8, hr8⟩ : ∃ r8, fr % 8 = r8 := ⟨_, rfl⟩
    rw [hr8] at hmod
    obtain ⟨b2, c2⟩ : ∃ b, ((r8 : Int) == 0) = b := ⟨_, rfl⟩
    obtain ⟨b4, c4⟩ : ∃ b, ((fr : Int) + (ln : Int) == (n : Int)) = b := ⟨_, rfl⟩
    have C2 := Lib.hid (And.intro c2 (And.intro c4 hr8))
    clear hr8
    by_cases c1 : (0 : Int) < ln
    · cases b2
      · go_wp2_with fail
        refine (H15.out.must _).mono ?_
        rintro e w16 ⟨rfl, h16⟩
        have H16 := Lib.hid (HFIN.out _ _ (by have d2 := C2.out.1; have d8 := C2.out.2.2; simp only [beq_iff_eq, beq_eq_false_iff_ne, ne_eq] at d2; rw [Bool.eq_iff_iff]; simp; omega) h16)
        clear h16
        go_wp2_with fail
        go_meet
        exact H16.out
      · by_cases c3 : (en : Int) ≤ fr
        · cases b4
          · go_wp2_with fail
            refine (H15.out.must _).mono ?_
            rintro e w16 ⟨rfl, h16⟩
            have H16 := Lib.hid (HFIN.out _ _ (by have d2 := C2.out.1; have d8 := C2.out.2.2; have d4 := C2.out.2.1; simp only [beq_iff_eq, beq_eq_false_iff_ne, ne_eq] at d2 d4; rw [Bool.eq_iff_iff]; simp; omega) h16)
            clear h16
            go_wp2_with fail
            go_meet
            exact H16.out
          · go_wp2_with fail
            refine (H15.out.must _).mono ?_
            rintro e w16 ⟨rfl, h16⟩
            have H16 := Lib.hid (HFIN.out _ _ (by have d2 := C2.out.1; have d8 := C2.out.2.2; have d4 := C2.out.2.1; simp only [beq_iff_eq, beq_eq_false_iff_ne, ne_eq] at d2 d4; rw [Bool.eq_iff_iff]; simp; omega) h16)
            clear h16
            go_wp2_with fail
            go_meet
            exact H16.out
        · go_wp2_with fail
          refine (H15.out.must _).mono ?_
          rintro e w16 ⟨rfl, h16⟩
          have H16 := Lib.hid (HFIN.out _ _ (by have d2 := C2.out.1; have d8 := C2.out.2.2; simp only [beq_iff_eq, beq_eq_false_iff_ne, ne_eq] at d2; rw [Bool.eq_iff_iff]; simp; omega) h16)
          clear h16
          go_wp2_with fail
          go_meet
          exact H16.out
    · go_wp2_with fail
      refine (H15.out.must _).mono ?_
      rintro e w16 ⟨rfl, h16⟩
      have H16 := Lib.hid (HFIN.out _ _ (by rw [Bool.eq_iff_iff]; simp; omega) h16)
      clear h16
      go_wp2_with fail
      go_meet
      exact H16.out
  apply_assumption
  (repeat (rename_i x; clear x))
  exact parse_tail19 HK.out.1 HK.out.2 hn hgl (HB.out.1.trans hba) HB.out.2.1 HB.out.2.2 HT.out.2 wc hcut _ _ _ _ _ _ _ _ _ _ _ _ _ _ _ _ _ _ _ _ _ _ _ _ _ _ _ _ _ _ _ _ _ _ _ _ _ _ _ _ _ _ _ _ _ _ _ _ _ _ _ _ _ _ _ _ _ _ _ _ _ _ _ _ _ _ _ _ _ _ _ _ _ _ _ _ _ _ _ _ _ _ _ _ _ _ _ _ _ _ _ _ _ _ _ _ _ _ _ _ _ _ _ _ _ _ _ _ _ _ _ _ _ _ _ _ _ _ _ _ _ _ _ _ _ _ _ _ _ _ _ _ _ _ _ _ _ _ _ _ _ _ _ _ _ _ _ _ _ _ _ _ _ _ _ _ _ _ _ _ _ _ _ _ _ _ _ _ _ _ _ _ _ _ _ _ _ _ _ _ _ _ _ _ _
end Go.Proofs.YtmpladnglfiejaaGreatDoor
