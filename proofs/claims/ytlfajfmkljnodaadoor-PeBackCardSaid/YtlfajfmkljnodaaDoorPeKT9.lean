/- The end of PeBack: cut, and more behind. -/
import Derived.Test.YtlfajfmkljnodaaDoorPeKB
namespace Go.Proofs.YtlfajfmkljnodaaDoor
open Go.RowKit
set_option maxRecDepth 100000
set_option linter.unusedVariables false
set_option linter.unusedSimpArgs false

noncomputable def kTail9 : Code := tailOf 9 (codeOf Tryd.f4)
set_option maxHeartbeats 8000000 in
theorem back_tail9 {S : Pe.Shape} {b more : List UInt8} {w w5 : World} {V1 : ShV} {C : IV} {xb ib lo lo3 : Nat} {A3 : Option Addr} {n3 c3 : Nat} {Am : Option Addr} {nm cm : Nat} {cut : Int} {sl : Nat} (k : BK S b more w w5 V1 C xb ib lo lo3 A3 n3 c3 Am nm cm) (hsl : S.secs.length = sl) (w6 : World) (h6 : Below w5.heap.size w5 w6) (u0 u3 u4 u5 u6 u10 u12 u13 u14 u15 u16 u17 u18 u19 u20 u21 u22 u23 u24 u25 u26 u27 u28 u29 u30 u31 u32 u33 u34 u35 u36 u37 u38 u39 u40 u41 u42 u43 u44 u45 u46 u47 u48 u49 u50 u51 u52 u53 u54 u55 u56 u57 u58 u59 u60 u61 u62 u63 u64 u65 u66 u67 u68 u69 u70 u71 u72 u73 u74 u75 u76 u77 u78 u79 u80 u81 u82 u83 u84 u85 u86 u87 u88 u89 u90 u91 u92 u93 u94 u95 u96 u97 u98 u99 u100 u101 u102 u103 u104 u105 u106 u107 u108 u109 u110 u111 u112 u113 u114 u115 u116 u117 u118 u119 u120 u121 u122 u123 u124 u125 u126 u127 u128 u129 u130 u131 u132 u133 u134 u135 u136 u137 u138 u139 u140 u141 u142 u143 u144 u145 u146 u147 u148 u149 u150 u151 u152 u153 u154 u155 u156 u157 u158 u159 u160 u161 u162 u163 u164 u165 u166 u167 u168 u169 u170 u171 u172 u173 u174 u175 u176 u177 u178 u179 u180 u181 u182 u183 u184 u185 u186 u187 u188 u189 u190 u191 u192 u193 u194 u195 u196 u197 u198 u199 u200 u201 u202 u203 : Value) :
    kTail9.wp Tryd.prog (bodyPost Tryd.prog Tryd.f4 (fun e w' => e = .returned (.bool true) ∧ Below w.heap.size w w')) { tmps := (u0 :: Value.int .i64 cut :: Value.slice Am nm cm :: u3 :: u4 :: u5 :: u6 :: Value.pointer (some ⟨xb, 0, none⟩) :: Value.slice A3 n3 c3 :: Value.pointer (some ⟨ib, 0, none⟩) :: u10 :: Value.int .i64 (sl : Int) :: u12 :: u13 :: u14 :: u15 :: u16 :: u17 :: u18 :: u19 :: u20 :: u21 :: u22 :: u23 :: u24 :: u25 :: u26 :: u27 :: u28 :: u29 :: u30 :: u31 :: u32 :: u33 :: u34 :: u35 :: u36 :: u37 :: u38 :: u39 :: u40 :: u41 :: u42 :: u43 :: u44 :: u45 :: u46 :: u47 :: u48 :: u49 :: u50 :: u51 :: u52 :: u53 :: u54 :: u55 :: u56 :: u57 :: u58 :: u59 :: u60 :: u61 :: u62 :: u63 :: u64 :: u65 :: u66 :: u67 :: u68 :: u69 :: u70 :: u71 :: u72 :: u73 :: u74 :: u75 :: u76 :: u77 :: u78 :: u79 :: u80 :: u81 :: u82 :: u83 :: u84 :: u85 :: u86 :: u87 :: u88 :: u89 :: u90 :: u91 :: u92 :: u93 :: u94 :: u95 :: u96 :: u97 :: u98 :: u99 :: u100 :: u101 :: u102 :: u103 :: u104 :: u105 :: u106 :: u107 :: u108 :: u109 :: u110 :: u111 :: u112 :: u113 :: u114 :: u115 :: u116 :: u117 :: u118 :: u119 :: u120 :: u121 :: u122 :: u123 :: u124 :: u125 :: u126 :: u127 :: u128 :: u129 :: u130 :: u131 :: u132 :: u133 :: u134 :: u135 :: u136 :: u137 :: u138 :: u139 :: u140 :: u141 :: u142 :: u143 :: u144 :: u145 :: u146 :: u147 :: u148 :: u149 :: u150 :: u151 :: u152 :: u153 :: u154 :: u155 :: u156 :: u157 :: u158 :: u159 :: u160 :: u161 :: u162 :: u163 :: u164 :: u165 :: u166 :: u167 :: u168 :: u169 :: u170 :: u171 :: u172 :: u173 :: u174 :: u175 :: u176 :: u177 :: u178 :: u179 :: u180 :: u181 :: u182 :: u183 :: u184 :: u185 :: u186 :: u187 :: u188 :: u189 :: u190 :: u191 :: u192 :: u193 :: u194 :: u195 :: u196 :: u197 :: u198 :: u199 :: u200 :: u201 :: u202 :: u203 :: []).toArray, defers := [] } w6 := by
  generalize hQ : bodyPost Tryd.prog Tryd.f4 (fun e w' => e = .returned (.bool true) ∧ Below w.heap.size w w') = Q
  unfold kTail9 codeOf
  simp only [Tryd.f4, tailOf, Option.getD_some]
  subst hQ
  obtain ⟨hB, hsh, _, hI, himg⟩ := k.facts w6 h6
  have hlo := hsl
  obtain ⟨A6, n6, c6, l6, e6, r6, hl6⟩ := hsh.sigs
  have hn6 : S.sigs.length = n6 := by rw [← hl6, List.length_map]; exact r6.len
  have x6 : w6.cell? ⟨xb, 6, none⟩ = some (.slice A6 n6 c6) := (hB.cell 6).trans (by rw [← e6]; rfl)
  obtain ⟨A4, c4, e4, _⟩ := himg.secs.rdS
  rw [Pe.secs_len_of k.img, hsl] at e4
  have y4 : w6.cell? ⟨ib, 4, none⟩ = some (.slice A4 sl c4) := (hI.cell 4).trans (by show some C.secs = _; rw [e4])
  obtain ⟨ln, hln⟩ : ∃ x, C.length = x := ⟨_, rfl⟩
  have y6 : w6.cell? ⟨ib, 6, none⟩ = some (.int .u32 (ln : Int)) := by rw [← hln]; exact hI.cell 6
  have hsn := k.sn.length
  rw [hln] at hsn
  have hbw6 := k.bel.trans (h6.mono k.bel.size)
  have H := Lib.hid (And.intro k (And.intro h6 hbw6))
  clear k hB hsh hI himg r6 hl6 e6 e4 hln h6 hbw6
  by_cases h0 : n6 = 0
  · have hs : S.sigs = [] := List.length_eq_zero_iff.1 (hn6.trans h0)
    rw [if_pos hs] at hsn
    subst hsn h0
    go_wp2_with fail
    refine (works_any w6).mono ?_
    rintro e wz ⟨rfl, hbz⟩
    have HZ := Lib.hid (H.out.2.2.trans (hbz.mono H.out.2.2.size))
    clear hbz
    go_wp2_with fail
    go_ret
    exact ⟨rfl, HZ.out⟩
  · have hs : S.sigs ≠ [] := fun e => h0 (by rw [← hn6, e]; rfl)
    have h0' : ((n6 : Int) == 0) = false := by simp; omega
    have HS := Lib.hid hs
    clear hs hsn
    have hl3 := H.out.1.len
    by_cases hc0 : (0 : Int) ≤ cut
    · by_cases hc1 : cut < n3
      · obtain ⟨ct, rfl⟩ : ∃ c : Nat, cut = (c : Int) := ⟨cut.toNat, by omega⟩
        have hr3 := (H.out.1.facts w6 H.out.2.1).2.2.1.rd
        obtain ⟨_, _, _, e3, hr3⟩ := hr3
        injection e3 with q1 q2 q3
        subst q1 q2 q3
        obtain ⟨Ac, cc, hrc, run1, run2⟩ := run_upto hr3 ct ct rfl (by omega)
        have hcut := Pe.Shape.cut_ H.out.1.ho HS.out (k := ct) (by rw [H.out.1.wr]; omega)
        rw [H.out.1.wr] at hcut
        have hpar := pe_parse_any Ac ct cc (b.take ct) w6 (hrc.more (by have := H.out.2.1.size; omega))
        have HP := Lib.hid (And.intro hpar hcut)
        clear hpar hcut hrc hr3
        go_wp2_with fail
        refine HP.out.1.mono ?_
        rintro e w7 ⟨hb7, D, rfl, hD, _, _⟩
        rw [HP.out.2]
        have hb57 := H.out.2.1.trans (hb7.mono H.out.2.1.size)
        have H7 := Lib.hid hb57
        clear hb7 hb57 run1 run2 x6 y4 y6
        go_upto_region 30 with fail
        have hoA := (H.out.1.facts w7 H7.out).2.2.1
        have hrm : Rd w7 w.heap.size Am nm cm more := H.out.1.more_.below (H.out.1.bel.trans (H7.out.mono H.out.1.bel.size))
        have hml := hrm.len
        have HA := Lib.hid (And.intro hoA (And.intro hrm H7.out))
        clear hoA hrm
        have hlo3 := H.out.1.lo3_
        have hsz5 := H7.out.size
        have hnm := H.out.1.nm_
        have hn3l := H.out.1.small
        have hl3 := H.out.1.len
        go_upto_region 31 with (first
          | (at_builtin
             refine wpList_app rfl (.tmp 187) (.tmp 188) rfl lo3 w5.heap.size _ b rfl HA.out.1 (by omega) w.heap.size Am nm cm more rfl HA.out.2.1.rds (by omega) ?_
             intro v7 w7b ho7 hg7 hat7 hb7
             have hb7' : Below w.heap.size w w7b := (H.out.1.bel.trans (HA.out.2.2.mono H.out.1.bel.size)).trans (hb7.mono hlo3.1)
             have H7b := Lib.hid (And.intro ho7 hb7')
             clear ho7 hg7 hat7 hb7 hb7')
          | fail)
        obtain ⟨A7, n7, c7, rfl, hr7⟩ := H7b.out.1.rd
        go_wp2_with fail
        refine (pe_parse_any A7 n7 c7 (b ++ more) w7b hr7).mono ?_
        rintro e w8 ⟨hb8, D, rfl, hD, _, _⟩
        have hb8' := H7b.out.2.trans (hb8.mono H7b.out.2.size)
        have H8 := Lib.hid hb8'
        clear hb8 hb8'
        by_cases hm : more = []
        · have hm0 : nm = 0 := by rw [← hml, hm]; rfl
          have e0 : Pe.err (b ++ more) = 0 := by rw [hm, List.append_nil]; exact H.out.1.err
          rw [e0]
          subst hm0
          clear e0 hr7
          go_wp2_with fail
          refine (works_any w8).mono ?_
          rintro e wz ⟨rfl, hbz⟩
          have HZ := Lib.hid (H8.out.trans (hbz.mono H8.out.size))
          clear hbz
          go_wp2_with fail
          go_ret
          exact ⟨rfl, HZ.out⟩
        · have hm0 : ((nm : Int) == 0) = false := by
            have : nm ≠ 0 := fun h => hm (List.length_eq_zero_iff.1 (hml.trans h))
            simp; omega
          have e0 : Pe.err (b ++ more) ≠ 0 := by rw [← H.out.1.wr]; exact Pe.Shape.more_ H.out.1.ho HS.out more hm
          obtain ⟨er, her⟩ : ∃ e, Pe.err (b ++ more) = e := ⟨_, rfl⟩
          rw [her] at e0 ⊢
          have e1 : ((er : Int) == 0) = false := by simp; omega
          clear hr7 her
          go_wp2_with fail
          refine (works_any w8).mono ?_
          rintro e wz ⟨rfl, hbz⟩
          have HZ := Lib.hid (H8.out.trans (hbz.mono H8.out.size))
          clear hbz
          go_wp2_with fail
          go_ret
          exact ⟨rfl, HZ.out⟩
      · go_upto_region 30 with fail
        have hoA := (H.out.1.facts w6 H.out.2.1).2.2.1
        have hrm : Rd w6 w.heap.size Am nm cm more := H.out.1.more_.below (H.out.1.bel.trans (H.out.2.1.mono H.out.1.bel.size))
        have hml := hrm.len
        have HA := Lib.hid (And.intro hoA (And.intro hrm H.out.2.1))
        clear hoA hrm
        have hlo3 := H.out.1.lo3_
        have hsz5 := H.out.2.1.size
        have hnm := H.out.1.nm_
        have hn3l := H.out.1.small
        have hl3 := H.out.1.len
        go_upto_region 31 with (first
          | (at_builtin
             refine wpList_app rfl (.tmp 187) (.tmp 188) rfl lo3 w5.heap.size _ b rfl HA.out.1 (by omega) w.heap.size Am nm cm more rfl HA.out.2.1.rds (by omega) ?_
             intro v7 w7 ho7 hg7 hat7 hb7
             have hb7' : Below w.heap.size w w7 := (H.out.1.bel.trans (HA.out.2.2.mono H.out.1.bel.size)).trans (hb7.mono hlo3.1)
             have H7 := Lib.hid (And.intro ho7 hb7')
             clear ho7 hg7 hat7 hb7 hb7')
          | fail)
        obtain ⟨A7, n7, c7, rfl, hr7⟩ := H7.out.1.rd
        go_wp2_with fail
        refine (pe_parse_any A7 n7 c7 (b ++ more) w7 hr7).mono ?_
        rintro e w8 ⟨hb8, D, rfl, hD, _, _⟩
        have hb8' := H7.out.2.trans (hb8.mono H7.out.2.size)
        have H8 := Lib.hid hb8'
        clear hb8 hb8'
        by_cases hm : more = []
        · have hm0 : nm = 0 := by rw [← hml, hm]; rfl
          have e0 : Pe.err (b ++ more) = 0 := by rw [hm, List.append_nil]; exact H.out.1.err
          rw [e0]
          subst hm0
          clear e0 hr7
          go_wp2_with fail
          refine (works_any w8).mono ?_
          rintro e wz ⟨rfl, hbz⟩
          have HZ := Lib.hid (H8.out.trans (hbz.mono H8.out.size))
          clear hbz
          go_wp2_with fail
          go_ret
          exact ⟨rfl, HZ.out⟩
        · have hm0 : ((nm : Int) == 0) = false := by
            have : nm ≠ 0 := fun h => hm (List.length_eq_zero_iff.1 (hml.trans h))
            simp; omega
          have e0 : Pe.err (b ++ more) ≠ 0 := by rw [← H.out.1.wr]; exact Pe.Shape.more_ H.out.1.ho HS.out more hm
          obtain ⟨er, her⟩ : ∃ e, Pe.err (b ++ more) = e := ⟨_, rfl⟩
          rw [her] at e0 ⊢
          have e1 : ((er : Int) == 0) = false := by simp; omega
          clear hr7 her
          go_wp2_with fail
          refine (works_any w8).mono ?_
          rintro e wz ⟨rfl, hbz⟩
          have HZ := Lib.hid (H8.out.trans (hbz.mono H8.out.size))
          clear hbz
          go_wp2_with fail
          go_ret
          exact ⟨rfl, HZ.out⟩
    · go_upto_region 30 with fail
      have hoA := (H.out.1.facts w6 H.out.2.1).2.2.1
      have hrm : Rd w6 w.heap.size Am nm cm more := H.out.1.more_.below (H.out.1.bel.trans (H.out.2.1.mono H.out.1.bel.size))
      have hml := hrm.len
      have HA := Lib.hid (And.intro hoA (And.intro hrm H.out.2.1))
      clear hoA hrm
      have hlo3 := H.out.1.lo3_
      have hsz5 := H.out.2.1.size
      have hnm := H.out.1.nm_
      have hn3l := H.out.1.small
      have hl3 := H.out.1.len
      go_upto_region 31 with (first
        | (at_builtin
           refine wpList_app rfl (.tmp 187) (.tmp 188) rfl lo3 w5.heap.size _ b rfl HA.out.1 (by omega) w.heap.size Am nm cm more rfl HA.out.2.1.rds (by omega) ?_
           intro v7 w7 ho7 hg7 hat7 hb7
           have hb7' : Below w.heap.size w w7 := (H.out.1.bel.trans (HA.out.2.2.mono H.out.1.bel.size)).trans (hb7.mono hlo3.1)
           have H7 := Lib.hid (And.intro ho7 hb7')
           clear ho7 hg7 hat7 hb7 hb7')
        | fail)
      obtain ⟨A7, n7, c7, rfl, hr7⟩ := H7.out.1.rd
      go_wp2_with fail
      refine (pe_parse_any A7 n7 c7 (b ++ more) w7 hr7).mono ?_
      rintro e w8 ⟨hb8, D, rfl, hD, _, _⟩
      have hb8' := H7.out.2.trans (hb8.mono H7.out.2.size)
      have H8 := Lib.hid hb8'
      clear hb8 hb8'
      by_cases hm : more = []
      · have hm0 : nm = 0 := by rw [← hml, hm]; rfl
        have e0 : Pe.err (b ++ more) = 0 := by rw [hm, List.append_nil]; exact H.out.1.err
        rw [e0]
        subst hm0
        clear e0 hr7
        go_wp2_with fail
        refine (works_any w8).mono ?_
        rintro e wz ⟨rfl, hbz⟩
        have HZ := Lib.hid (H8.out.trans (hbz.mono H8.out.size))
        clear hbz
        go_wp2_with fail
        go_ret
        exact ⟨rfl, HZ.out⟩
      · have hm0 : ((nm : Int) == 0) = false := by
          have : nm ≠ 0 := fun h => hm (List.length_eq_zero_iff.1 (hml.trans h))
          simp; omega
        have e0 : Pe.err (b ++ more) ≠ 0 := by rw [← H.out.1.wr]; exact Pe.Shape.more_ H.out.1.ho HS.out more hm
        obtain ⟨er, her⟩ : ∃ e, Pe.err (b ++ more) = e := ⟨_, rfl⟩
        rw [her] at e0 ⊢
        have e1 : ((er : Int) == 0) = false := by simp; omega
        clear hr7 her
        go_wp2_with fail
        refine (works_any w8).mono ?_
        rintro e wz ⟨rfl, hbz⟩
        have HZ := Lib.hid (H8.out.trans (hbz.mono H8.out.size))
        clear hbz
        go_wp2_with fail
        go_ret
        exact ⟨rfl, HZ.out⟩
end Go.Proofs.YtlfajfmkljnodaaDoor
