/- PeParts: the sections end within the sum. -/
import Derived.Test.YtlfajfmkljnodaaDoorPeQT7
namespace Go.Proofs.YtlfajfmkljnodaaDoor
open Go.RowKit
set_option maxRecDepth 100000
set_option linter.unusedVariables false
set_option linter.unusedSimpArgs false

noncomputable def qTail6 : Code := tailOf 6 (codeOf Tryd.f5)
set_option maxHeartbeats 8000000 in
theorem parts_tail6 {W0 : World} {w : World} {n c ck dr hd tb ln sum m s c4 c7 I : Nat} {A A4 A7 : Option Addr} {pl : Bool} {l : List (Nat × Nat)} (k : PQ l n ck dr hd tb ln sum m s) (hbw : Below w.heap.size w W0) (hI : w.heap.size ≤ I ∧ I < W0.heap.size) (hB : Bi W0 I ⟨pl, ck, dr, hd, .slice A4 m c4, tb, ln, .slice A7 s c7⟩) (hS : RdS W0 W0.heap.size A4 m c4 l) (w3 : World) (hb : Below W0.heap.size W0 w3) (u1 u2 u4 u6 u7 u8 u9 u10 u11 u12 u13 u14 u15 u16 u17 u18 u19 u20 u21 u22 u23 u24 u25 u26 u27 u28 u29 u30 u31 u32 u33 u34 u35 u36 u37 u38 u39 u40 u41 u42 u43 u44 u45 u46 u47 u48 u49 u50 u51 u52 u53 u54 u55 u56 u57 u58 u59 u60 u61 u62 u63 u64 u65 u66 u67 u68 u69 u70 u71 u72 u73 u74 u75 u76 u77 u78 u79 u80 u81 u82 u83 u84 u85 u86 u87 u88 u89 u90 u91 u92 u93 u94 u95 u96 u97 u98 u99 u100 u101 u102 u103 u104 u105 u106 u107 u108 u109 u110 u111 u112 u113 u114 u115 u116 u117 u118 u119 u120 u121 u122 u123 u124 u125 u126 u127 u128 u129 u130 u131 u132 u133 u134 u135 u136 u137 u138 u139 u140 u141 u142 u143 u144 u145 u146 u147 u148 u149 u150 u151 u152 u153 u154 u155 u156 u157 u158 u159 u160 u161 u162 u163 u164 u165 u166 u167 u168 u169 u170 u171 u172 u173 u174 u175 u176 u177 u178 u179 u180 u181 u182 u183 u184 u185 u186 u187 u188 u189 u190 u191 u192 u193 u194 u195 u196 u197 u198 u199 u200 u201 u202 u203 u204 u205 u206 u207 u208 u209 u210 u211 u212 u213 u214 u215 u216 : Value) :
    qTail6.wp Tryd.prog (bodyPost Tryd.prog Tryd.f5 (fun e w' => e = .returned (.bool true) ∧ Below w.heap.size w w')) { tmps := (Value.slice A n c :: u1 :: u2 :: Value.pointer (some ⟨I, 0, none⟩) :: u4 :: Value.int .i64 (sum : Int) :: u6 :: u7 :: u8 :: u9 :: u10 :: u11 :: u12 :: u13 :: u14 :: u15 :: u16 :: u17 :: u18 :: u19 :: u20 :: u21 :: u22 :: u23 :: u24 :: u25 :: u26 :: u27 :: u28 :: u29 :: u30 :: u31 :: u32 :: u33 :: u34 :: u35 :: u36 :: u37 :: u38 :: u39 :: u40 :: u41 :: u42 :: u43 :: u44 :: u45 :: u46 :: u47 :: u48 :: u49 :: u50 :: u51 :: u52 :: u53 :: u54 :: u55 :: u56 :: u57 :: u58 :: u59 :: u60 :: u61 :: u62 :: u63 :: u64 :: u65 :: u66 :: u67 :: u68 :: u69 :: u70 :: u71 :: u72 :: u73 :: u74 :: u75 :: u76 :: u77 :: u78 :: u79 :: u80 :: u81 :: u82 :: u83 :: u84 :: u85 :: u86 :: u87 :: u88 :: u89 :: u90 :: u91 :: u92 :: u93 :: u94 :: u95 :: u96 :: u97 :: u98 :: u99 :: u100 :: u101 :: u102 :: u103 :: u104 :: u105 :: u106 :: u107 :: u108 :: u109 :: u110 :: u111 :: u112 :: u113 :: u114 :: u115 :: u116 :: u117 :: u118 :: u119 :: u120 :: u121 :: u122 :: u123 :: u124 :: u125 :: u126 :: u127 :: u128 :: u129 :: u130 :: u131 :: u132 :: u133 :: u134 :: u135 :: u136 :: u137 :: u138 :: u139 :: u140 :: u141 :: u142 :: u143 :: u144 :: u145 :: u146 :: u147 :: u148 :: u149 :: u150 :: u151 :: u152 :: u153 :: u154 :: u155 :: u156 :: u157 :: u158 :: u159 :: u160 :: u161 :: u162 :: u163 :: u164 :: u165 :: u166 :: u167 :: u168 :: u169 :: u170 :: u171 :: u172 :: u173 :: u174 :: u175 :: u176 :: u177 :: u178 :: u179 :: u180 :: u181 :: u182 :: u183 :: u184 :: u185 :: u186 :: u187 :: u188 :: u189 :: u190 :: u191 :: u192 :: u193 :: u194 :: u195 :: u196 :: u197 :: u198 :: u199 :: u200 :: u201 :: u202 :: u203 :: u204 :: u205 :: u206 :: u207 :: u208 :: u209 :: u210 :: u211 :: u212 :: u213 :: u214 :: u215 :: u216 :: []).toArray, defers := [] } w3 := by
  generalize hQ : bodyPost Tryd.prog Tryd.f5 (fun e w' => e = .returned (.bool true) ∧ Below w.heap.size w w') = Q
  unfold qTail6 codeOf
  simp only [Tryd.f5, tailOf, Option.getD_some]
  subst hQ
  have hf : ∀ W, Below W0.heap.size W0 W → W.cell? ⟨I, 4, none⟩ = some (.slice A4 m c4) ∧ RdS W W0.heap.size A4 m c4 l := fun W hW => ⟨(hB.below hW hB.lt).cell 4, hS.below hW⟩
  have hm96 := k.c5
  have hnl := k.nl
  have hsn := k.sn
  have H := Lib.hid (And.intro k (And.intro hbw (And.intro hI (And.intro hB (And.intro hS (And.intro hb hf))))))
  clear k hbw hB hS hb hf
  refine wp_seq_k fun K hK => ?_
  go_cut [] from 10 (fun wx => Below W0.heap.size W0 wx)
  case first =>
    go_wp2_with fail
    go_loopw [10] (fun i wr => ∃ j : Nat, j ≤ m ∧ i = .int .i64 (j : Int) ∧ Below W0.heap.size W0 wr) (fun i _ => m - (intOf i).toNat)
    case atStart => exact ⟨0, Nat.zero_le _, rfl, H.out.2.2.2.2.2.1⟩
    case round =>
      obtain ⟨j, hj, rfl, hb⟩ := hrel
      obtain ⟨k4, hr⟩ := H.out.2.2.2.2.2.2 wr hb
      by_cases hlt : j < m
      · have hlt' : (j : Int) < m := by omega
        obtain ⟨b, o, ⟨x1, x2⟩, rfl, hbB, hx, q1, q2⟩ := hr.get hlt
        obtain ⟨y1, y2, y3⟩ := H.out.1.each _ (List.mem_of_getElem? hx)
        have hle : ¬ ((x1 : Int) + x2 > sum) := by simp only at y3; omega
        dsimp only at q1 q2 y3
        have HO := Lib.hid hb
        clear hb hr hx y1 y2
        go_upto_region 23 with fail
        go_quiet (fail)
        go_wp2_with fail
        go_roundw
        case rel => exact ⟨j + 1, by omega, by go_num, below_drewN HO.out _⟩
        case measure => simp [intOf]; omega
      · obtain rfl : j = m := by omega
        have hge : ¬ (j : Int) < j := by omega
        have HO := Lib.hid hb
        clear hb hr
        go_wp2_with fail
        go_meet
        exact HO.out
  refine hK _ _ ?_
  exact parts_tail7 H.out.1 H.out.2.1 H.out.2.2.1 H.out.2.2.2.1 H.out.2.2.2.2.1 wc hcut _ _ _ _ _ _ _ _ _ _ _ _ _ _ _ _ _ _ _ _ _ _ _ _ _ _ _ _ _ _ _ _ _ _ _ _ _ _ _ _ _ _ _ _ _ _ _ _ _ _ _ _ _ _ _ _ _ _ _ _ _ _ _ _ _ _ _ _ _ _ _ _ _ _ _ _ _ _ _ _ _ _ _ _ _ _ _ _ _ _ _ _ _ _ _ _ _ _ _ _ _ _ _ _ _ _ _ _ _ _ _ _ _ _ _ _ _ _ _ _ _ _ _ _ _ _ _ _ _ _ _ _ _ _ _ _ _ _ _ _ _ _ _ _ _ _ _ _ _ _ _ _ _ _ _ _ _ _ _ _ _ _ _ _ _ _ _ _ _ _ _ _ _ _ _ _ _ _ _ _ _ _ _ _ _ _ _ _ _ _ _ _ _ _ _ _ _ _ _ _ _ _ _ _ _ _ _ _ _ _ _ _ _ _
end Go.Proofs.YtlfajfmkljnodaaDoor
