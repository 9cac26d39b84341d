/- Parse: the directories. -/
import Derived.Test.YtmpladnglfiejaaGreatDoorPePT12
namespace Go.Proofs.YtmpladnglfiejaaGreatDoor
open Go.RowKit Go.Shelf
attribute [local go_sem] Oper.semAt_some
set_option maxRecDepth 100000
set_option linter.unusedVariables false
set_option linter.unusedSimpArgs false

noncomputable def pTail6 : Code := tailOf 6 (codeOf Tryz.f32)
set_option maxHeartbeats 4000000 in
theorem parse_tail6 {w : World} {g n c pe many size magic : Nat} {A : Option Addr} {xs : List UInt8} {fs : Bool} (k : KA xs n pe many size magic fs) (hr : Rd w g A n c xs) (hn : n ≤ 16777216) (hgl0 : g < w.heap.size) (w6 : World) (hcut : PA w g w.heap.size (.slice A n c) fs IV.zero w6) (u8 u9 u10 u11 u12 u13 u14 u15 u16 u17 u18 u19 u20 u21 u22 u23 u24 u25 u26 u27 u28 u29 u30 u31 u32 u33 u34 u35 u36 u37 u38 u39 u40 u41 u42 u43 u44 u45 u46 u47 u48 u49 u50 u51 u52 u53 u54 u55 u56 u57 u58 u59 u60 u61 u62 u63 u64 u65 u66 u67 u68 u69 u70 u71 u72 u73 u74 u75 u76 u77 u78 u79 u80 u81 u82 u83 u84 u85 u86 u87 u88 u89 u90 u91 u92 u93 u94 u95 u96 u97 u98 u99 u100 u101 u102 u103 u104 u105 u106 u107 u108 u109 u110 u111 u112 u113 u114 u115 u116 u117 u118 u119 u120 u121 u122 u123 u124 u125 u126 u127 u128 u129 u130 u131 u132 u133 u134 u135 u136 u137 u138 u139 u140 u141 u142 u143 u144 u145 u146 u147 u148 u149 u150 u151 u152 u153 u154 u155 u156 u157 u158 u159 u160 u161 u162 u163 u164 u165 u166 u167 u168 u169 u170 u171 u172 u173 u174 u175 u176 u177 u178 u179 u180 u181 u182 u183 u184 u185 u186 u187 u188 u189 u190 u191 u192 u193 u194 u195 u196 u197 u198 u199 u200 : Value) :
    pTail6.wp Tryz.prog (bodyPostM Fence.wide 5 Tryz.prog Tryz.f32 (ParsePost g (.slice A n c) xs w)) { tmps := (Value.pointer (some ⟨g, 0, none⟩) :: undef :: Value.pointer (some ⟨w.heap.size, 0, none⟩) :: Value.int .i64 (pe : Int) :: Value.int .i64 ((pe : Int) + 24) :: Value.int .i64 (many : Int) :: Value.int .i64 (size : Int) :: Value.int .i64 (magic : Int) :: u8 :: u9 :: u10 :: u11 :: u12 :: u13 :: u14 :: u15 :: u16 :: u17 :: u18 :: u19 :: u20 :: u21 :: u22 :: u23 :: u24 :: u25 :: u26 :: u27 :: u28 :: u29 :: u30 :: u31 :: u32 :: u33 :: u34 :: u35 :: u36 :: u37 :: u38 :: u39 :: u40 :: u41 :: u42 :: u43 :: u44 :: u45 :: u46 :: u47 :: u48 :: u49 :: u50 :: u51 :: u52 :: u53 :: u54 :: u55 :: u56 :: u57 :: u58 :: u59 :: u60 :: u61 :: u62 :: u63 :: u64 :: u65 :: u66 :: u67 :: u68 :: u69 :: u70 :: u71 :: u72 :: u73 :: u74 :: u75 :: u76 :: u77 :: u78 :: u79 :: u80 :: u81 :: u82 :: u83 :: u84 :: u85 :: u86 :: u87 :: u88 :: u89 :: u90 :: u91 :: u92 :: u93 :: u94 :: u95 :: u96 :: u97 :: u98 :: u99 :: u100 :: u101 :: u102 :: u103 :: u104 :: u105 :: u106 :: u107 :: u108 :: u109 :: u110 :: u111 :: u112 :: u113 :: u114 :: u115 :: u116 :: u117 :: u118 :: u119 :: u120 :: u121 :: u122 :: u123 :: u124 :: u125 :: u126 :: u127 :: u128 :: u129 :: u130 :: u131 :: u132 :: u133 :: u134 :: u135 :: u136 :: u137 :: u138 :: u139 :: u140 :: u141 :: u142 :: u143 :: u144 :: u145 :: u146 :: u147 :: u148 :: u149 :: u150 :: u151 :: u152 :: u153 :: u154 :: u155 :: u156 :: u157 :: u158 :: u159 :: u160 :: u161 :: u162 :: u163 :: u164 :: u165 :: u166 :: u167 :: u168 :: u169 :: u170 :: u171 :: u172 :: u173 :: u174 :: u175 :: u176 :: u177 :: u178 :: u179 :: u180 :: u181 :: u182 :: u183 :: u184 :: u185 :: u186 :: u187 :: u188 :: u189 :: u190 :: u191 :: u192 :: u193 :: u194 :: u195 :: u196 :: u197 :: u198 :: u199 :: u200 :: []).toArray, defers := [] } w6 := by
  have hgl := hgl0
  have hl := k.len
  have hpel := k.pel
  have hmanyl := k.manyl
  have hsizel := k.sizel
  have hmagicl := k.magicl
  have H := Lib.hid (And.intro hr trivial)
  have H1 := Lib.hid (And.intro trivial k.pe_)
  have H5 := Lib.hid (And.intro trivial (And.intro k.many_ (And.intro k.size_ k.magic_)))
  have HFS := Lib.hid (And.intro trivial k.fs_)
  have HK := Lib.hid (And.intro k hr)
  clear k hr
  generalize hQ : bodyPostM Fence.wide 5 Tryz.prog Tryz.f32 (ParsePost g (.slice A n c) xs w) = Q
  unfold pTail6 codeOf
  simp only [Tryz.f32, tailOf, Option.getD_some]
  subst hQ
  have i6 : w6.frozen? ⟨w.heap.size, 0, none⟩ = false := hcut.im.frozen 0
  have c60 : w6.cell? ⟨w.heap.size, 0, none⟩ = some (.bool false) := hcut.im.cell 0
  obtain ⟨plus, hplus⟩ : ∃ b, ((magic : Int) == 523) = b := ⟨_, rfl⟩
  have hplusx : Pe.plus xs = plus := by
    rw [← hplus, show (523 : Int) = ((523 : Nat) : Int) from rfl, int_beq]
    unfold Pe.plus Pe.magic Pe.opt Pe.pe
    rw [H1.out.2, H5.out.2.2.2]
  have h7 := hcut.put (D := {IV.zero with plus := plus}) 0 (.bool plus) rfl
  have H7 := Lib.hid (And.intro h7 hplusx)
  clear hcut h7 hplusx
  go_upto_region 7 with fail
  obtain ⟨w7, hw7⟩ : ∃ w7, w7 = w6.setCell ⟨w.heap.size, 0, none⟩ (.bool plus) := ⟨_, rfl⟩
  rw [← hw7] at H7 ⊢
  clear hw7 i6 c60 hplus
  go_cut [8] from 17 (fun s8 wx => s8 = .int .i64 ((pe : Int) + 24 + 96) ∧ wx = w7)
  case first =>
    go_wp2_with fail
    go_meet
    exact ⟨rfl, rfl⟩
  obtain ⟨rfl, rfl⟩ := hcut
  apply_assumption
  refine wp_seq_k fun K hK => ?_
  obtain ⟨dirs, hdirs⟩ : ∃ d, pe + 24 + (if plus then 112 else 96) = d := ⟨_, rfl⟩
  have hdb : pe + 120 ≤ dirs ∧ dirs ≤ pe + 136 := by rw [← hdirs]; split <;> omega
  have hdx : Pe.dirs xs = dirs := by
    unfold Pe.dirs Pe.opt Pe.pe
    rw [H7.out.2, H1.out.2, hdirs]
  have HD := Lib.hid (And.intro hdirs hdx)
  clear hdirs hdx
  go_cut [8] from 17 (fun s8 wx => s8 = .int .i64 (dirs : Int) ∧ wx = wc)
  case first =>
    have k0 : wc.cell? ⟨w.heap.size, 0, none⟩ = some (.bool plus) := H7.out.1.im.cell 0
    cases plus
    · go_wp2_with fail
      go_meet
      refine ⟨?_, rfl⟩
      have := HD.out.1
      simp at this
      rw [← this]; congr 1
    · go_wp2_with fail
      go_meet
      refine ⟨?_, rfl⟩
      have := HD.out.1
      simp at this
      rw [← this]; congr 1
  obtain ⟨rfl, rfl⟩ := hcut
  have k1 : wc.cell? ⟨w.heap.size, 1, none⟩ = some (.int .i64 0) := H7.out.1.im.cell 1
  have k2 : wc.cell? ⟨w.heap.size, 2, none⟩ = some (.int .i64 0) := H7.out.1.im.cell 2
  have l1 := H7.out.1.im.frozen 1
  have l2 := H7.out.1.im.frozen 2
  have h8 := (H7.out.1.put (D := {IV.zero with plus := plus, check := pe + 88}) 1 (.int .i64 ((pe : Int) + 24 + 64)) (by simp [IV.cells, IV.zero]; omega)).put (D := {IV.zero with plus := plus, check := pe + 88, dir := dirs + 32}) 2 (.int .i64 ((dirs : Int) + 32)) (by simp [IV.cells, IV.zero])
  obtain ⟨w8, hw8⟩ : ∃ w8, w8 = (wc.setCell ⟨w.heap.size, 1, none⟩ (.int .i64 ((pe : Int) + 24 + 64))).setCell ⟨w.heap.size, 2, none⟩ (.int .i64 ((dirs : Int) + 32)) := ⟨_, rfl⟩
  rw [← hw8] at h8
  have H8 := Lib.hid h8
  clear h8
  go_upto_region 11 with fail
  rw [← hw8]
  clear hw8 k1 k2 l1 l2
  go_wp2_with fail
  refine (H8.out.at4 H.out.1 hn (dirs - 4) _ (by omega) (by omega)).mono ?_
  rintro e w9 ⟨rfl, h9⟩
  have H9 := Lib.hid h9
  clear h9
  go_wp2_with fail
  refine (H9.out.at4 H.out.1 hn (pe + 84) _ (by omega) (by omega)).mono ?_
  rintro e w10 ⟨rfl, h10⟩
  obtain ⟨kd, hkd⟩ : ∃ m, Pe.at_ xs (dirs - 4) 4 = m := ⟨_, rfl⟩
  obtain ⟨hdrs, hhdrs⟩ : ∃ m, Pe.at_ xs (pe + 84) 4 = m := ⟨_, rfl⟩
  have hkdl : kd < 4294967296 := by rw [← hkd]; exact Pe.at_lt4 _ _
  have hhdrsl : hdrs < 4294967296 := by rw [← hhdrs]; exact Pe.at_lt4 _ _
  rw [hkd, hhdrs]
  have H10 := Lib.hid (And.intro h10 (And.intro hkd hhdrs))
  clear h10 hkd hhdrs
  go_upto_region 12 with fail
  obtain ⟨hd, hhd⟩ : ∃ hd, Pe.head xs = hd := ⟨_, rfl⟩
  have hth : hd = (fs && Pe.inb xs (dirs - 4) 4 && Pe.inb xs (pe + 84) 4 && (decide (5 ≤ kd) && (size == dirs - (pe + 24) + 8 * kd) && decide (hdrs ≤ n) && decide (pe + 24 + size + 40 * many ≤ hdrs))) := by
    rw [← hhd]
    unfold Pe.head Pe.third Pe.kdirs Pe.headers Pe.table Pe.size Pe.many
    rw [HD.out.2, HFS.out.2]
    unfold Pe.opt Pe.pe
    rw [H1.out.2, H5.out.2.1, H5.out.2.2.1, H10.out.2.1, hl]
    rw [show pe + 24 + 60 = pe + 84 from rfl, H10.out.2.2]
    simp only [Bool.and_assoc]
  have HTH := Lib.hid (And.intro hth hhd)
  clear hth hhd
  go_cut [] from 17 (fun wx => PA w g w.heap.size (.slice A n c) hd {IV.zero with plus := plus, check := pe + 88, dir := dirs + 32} wx)
  case first =>
    have hfin : ∀ ok wx, ok = (decide (5 ≤ kd) && (size == dirs - (pe + 24) + 8 * kd) && decide (hdrs ≤ n) && decide (pe + 24 + size + 40 * many ≤ hdrs)) → PA w g w.heap.size (.slice A n c) (fs && Pe.inb xs (dirs - 4) 4 && Pe.inb xs (pe + 84) 4 && ok) {IV.zero with plus := plus, check := pe + 88, dir := dirs + 32} wx → PA w g w.heap.size (.slice A n c) hd {IV.zero with plus := plus, check := pe + 88, dir := dirs + 32} wx := fun ok wx e hp => by
      rw [HTH.out.1, ← e]; exact hp
    have HFIN := Lib.hid hfin
    have q0 : w10.cell? ⟨g, 0, none⟩ = some (.slice A n c) := (H10.out.1.rd.facts).1 0
    clear hfin
    by_cases c1 : (5 : Int) ≤ kd
    · obtain ⟨b2, c2⟩ : ∃ b, ((size : Int) == (dirs : Int) - ((pe : Int) + 24) + 8 * (kd : Int)) = b := ⟨_, rfl⟩
      have C2 := Lib.hid c2
      cases b2
      · go_wp2_with fail
        refine (H10.out.1.must _).mono ?_
        rintro e w11 ⟨rfl, h11⟩
        have H11 := Lib.hid (HFIN.out _ _ (by have d2 := C2.out; simp only [beq_iff_eq, beq_eq_false_iff_ne, ne_eq] at d2; rw [Bool.eq_iff_iff]; simp; omega) h11)
        clear h11
        go_wp2_with fail
        go_meet
        exact H11.out
      · by_cases c3 : (hdrs : Int) ≤ n
        · by_cases c4 : (pe : Int) + 24 + size + 40 * many ≤ hdrs
          · go_wp2_with fail
            refine (H10.out.1.must _).mono ?_
            rintro e w11 ⟨rfl, h11⟩
            have H11 := Lib.hid (HFIN.out _ _ (by have d2 := C2.out; simp only [beq_iff_eq, beq_eq_false_iff_ne, ne_eq] at d2; rw [Bool.eq_iff_iff]; simp; omega) h11)
            clear h11
            go_wp2_with fail
            go_meet
            exact H11.out
          · go_wp2_with fail
            refine (H10.out.1.must _).mono ?_
            rintro e w11 ⟨rfl, h11⟩
            have H11 := Lib.hid (HFIN.out _ _ (by have d2 := C2.out; simp only [beq_iff_eq, beq_eq_false_iff_ne, ne_eq] at d2; rw [Bool.eq_iff_iff]; simp; omega) h11)
            clear h11
            go_wp2_with fail
            go_meet
            exact H11.out
        · go_wp2_with fail
          refine (H10.out.1.must _).mono ?_
          rintro e w11 ⟨rfl, h11⟩
          have H11 := Lib.hid (HFIN.out _ _ (by have d2 := C2.out; simp only [beq_iff_eq, beq_eq_false_iff_ne, ne_eq] at d2; rw [Bool.eq_iff_iff]; simp; omega) h11)
          clear h11
          go_wp2_with fail
          go_meet
          exact H11.out
    · go_wp2_with fail
      refine (H10.out.1.must _).mono ?_
      rintro e w11 ⟨rfl, h11⟩
      have H11 := Lib.hid (HFIN.out _ _ (by rw [Bool.eq_iff_iff]; simp; omega) h11)
      clear h11
      go_wp2_with fail
      go_meet
      exact H11.out
  apply_assumption
  (repeat (rename_i x; clear x))
  exact parse_tail12 HK.out.1 HK.out.2 hn hgl H7.out.2 HD.out.2 hdb H10.out.2.2 hhdrsl HTH.out.2 wc hcut _ _ _ _ _ _ _ _ _ _ _ _ _ _ _ _ _ _ _ _ _ _ _ _ _ _ _ _ _ _ _ _ _ _ _ _ _ _ _ _ _ _ _ _ _ _ _ _ _ _ _ _ _ _ _ _ _ _ _ _ _ _ _ _ _ _ _ _ _ _ _ _ _ _ _ _ _ _ _ _ _ _ _ _ _ _ _ _ _ _ _ _ _ _ _ _ _ _ _ _ _ _ _ _ _ _ _ _ _ _ _ _ _ _ _ _ _ _ _ _ _ _ _ _ _ _ _ _ _ _ _ _ _ _ _ _ _ _ _ _ _ _ _ _ _ _ _ _ _ _ _ _ _ _ _ _ _ _ _ _ _ _ _ _ _ _ _ _ _ _ _ _ _ _ _ _ _ _ _ _ _ _ _ _ _ _ _ _ _
end Go.Proofs.YtmpladnglfiejaaGreatDoor
