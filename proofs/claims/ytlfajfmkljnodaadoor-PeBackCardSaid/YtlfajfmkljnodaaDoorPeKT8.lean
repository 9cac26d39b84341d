/- PeBack: the signatures. -/
import Derived.Test.YtlfajfmkljnodaaDoorPeKT9
namespace Go.Proofs.YtlfajfmkljnodaaDoor
open Go.RowKit
set_option maxRecDepth 100000
set_option linter.unusedVariables false
set_option linter.unusedSimpArgs false

noncomputable def kTail8 : Code := tailOf 8 (codeOf Tryd.f4)
set_option maxHeartbeats 8000000 in
theorem back_tail8 {S : Pe.Shape} {b more : List UInt8} {w w5 : World} {V1 : ShV} {C : IV} {xb ib lo lo3 : Nat} {A3 : Option Addr} {n3 c3 : Nat} {Am : Option Addr} {nm cm : Nat} {cut : Int} {sl : Nat} (k : BK S b more w w5 V1 C xb ib lo lo3 A3 n3 c3 Am nm cm) (hsl : S.secs.length = sl) (w6 : World) (h6 : Below w5.heap.size w5 w6) (u0 u3 u4 u5 u6 u10 u12 u13 u14 u15 u16 u17 u18 u19 u20 u21 u22 u23 u24 u25 u26 u27 u28 u29 u30 u31 u32 u33 u34 u35 u36 u37 u38 u39 u40 u41 u42 u43 u44 u45 u46 u47 u48 u49 u50 u51 u52 u53 u54 u55 u56 u57 u58 u59 u60 u61 u62 u63 u64 u65 u66 u67 u68 u69 u70 u71 u72 u73 u74 u75 u76 u77 u78 u79 u80 u81 u82 u83 u84 u85 u86 u87 u88 u89 u90 u91 u92 u93 u94 u95 u96 u97 u98 u99 u100 u101 u102 u103 u104 u105 u106 u107 u108 u109 u110 u111 u112 u113 u114 u115 u116 u117 u118 u119 u120 u121 u122 u123 u124 u125 u126 u127 u128 u129 u130 u131 u132 u133 u134 u135 u136 u137 u138 u139 u140 u141 u142 u143 u144 u145 u146 u147 u148 u149 u150 u151 u152 u153 u154 u155 u156 u157 u158 u159 u160 u161 u162 u163 u164 u165 u166 u167 u168 u169 u170 u171 u172 u173 u174 u175 u176 u177 u178 u179 u180 u181 u182 u183 u184 u185 u186 u187 u188 u189 u190 u191 u192 u193 u194 u195 u196 u197 u198 u199 u200 u201 u202 u203 : Value) :
    kTail8.wp Tryd.prog (bodyPost Tryd.prog Tryd.f4 (fun e w' => e = .returned (.bool true) ∧ Below w.heap.size w w')) { tmps := (u0 :: Value.int .i64 cut :: Value.slice Am nm cm :: u3 :: u4 :: u5 :: u6 :: Value.pointer (some ⟨xb, 0, none⟩) :: Value.slice A3 n3 c3 :: Value.pointer (some ⟨ib, 0, none⟩) :: u10 :: Value.int .i64 (sl : Int) :: u12 :: u13 :: u14 :: u15 :: u16 :: u17 :: u18 :: u19 :: u20 :: u21 :: u22 :: u23 :: u24 :: u25 :: u26 :: u27 :: u28 :: u29 :: u30 :: u31 :: u32 :: u33 :: u34 :: u35 :: u36 :: u37 :: u38 :: u39 :: u40 :: u41 :: u42 :: u43 :: u44 :: u45 :: u46 :: u47 :: u48 :: u49 :: u50 :: u51 :: u52 :: u53 :: u54 :: u55 :: u56 :: u57 :: u58 :: u59 :: u60 :: u61 :: u62 :: u63 :: u64 :: u65 :: u66 :: u67 :: u68 :: u69 :: u70 :: u71 :: u72 :: u73 :: u74 :: u75 :: u76 :: u77 :: u78 :: u79 :: u80 :: u81 :: u82 :: u83 :: u84 :: u85 :: u86 :: u87 :: u88 :: u89 :: u90 :: u91 :: u92 :: u93 :: u94 :: u95 :: u96 :: u97 :: u98 :: u99 :: u100 :: u101 :: u102 :: u103 :: u104 :: u105 :: u106 :: u107 :: u108 :: u109 :: u110 :: u111 :: u112 :: u113 :: u114 :: u115 :: u116 :: u117 :: u118 :: u119 :: u120 :: u121 :: u122 :: u123 :: u124 :: u125 :: u126 :: u127 :: u128 :: u129 :: u130 :: u131 :: u132 :: u133 :: u134 :: u135 :: u136 :: u137 :: u138 :: u139 :: u140 :: u141 :: u142 :: u143 :: u144 :: u145 :: u146 :: u147 :: u148 :: u149 :: u150 :: u151 :: u152 :: u153 :: u154 :: u155 :: u156 :: u157 :: u158 :: u159 :: u160 :: u161 :: u162 :: u163 :: u164 :: u165 :: u166 :: u167 :: u168 :: u169 :: u170 :: u171 :: u172 :: u173 :: u174 :: u175 :: u176 :: u177 :: u178 :: u179 :: u180 :: u181 :: u182 :: u183 :: u184 :: u185 :: u186 :: u187 :: u188 :: u189 :: u190 :: u191 :: u192 :: u193 :: u194 :: u195 :: u196 :: u197 :: u198 :: u199 :: u200 :: u201 :: u202 :: u203 :: []).toArray, defers := [] } w6 := by
  generalize hQ : bodyPost Tryd.prog Tryd.f4 (fun e w' => e = .returned (.bool true) ∧ Below w.heap.size w w') = Q
  unfold kTail8 codeOf
  simp only [Tryd.f4, tailOf, Option.getD_some]
  subst hQ
  have h8 := k.h8
  obtain ⟨A6, n6, c6, l6, e6, r6, hl6⟩ := (k.facts w5 (Below.refl _ _)).2.1.sigs
  obtain ⟨l7, g7, hl7⟩ := (k.facts w5 (Below.refl _ _)).2.2.2.2.sigs
  obtain ⟨A7, c7, e7, r7⟩ := g7.rdL
  rw [Pe.sigs_of k.img] at hl7
  have hn6 : S.sigs.length = n6 := by rw [← hl6, List.length_map]; exact r6.len
  have hn7 : l7.length = n6 := by rw [← hn6, ← hl7, List.length_map]
  rw [hn7] at e7 r7
  have hn68 : n6 ≤ 8 := by omega
  have hf : ∀ W, Below w5.heap.size w5 W → W.cell? ⟨xb, 6, none⟩ = some (.slice A6 n6 c6) ∧ W.cell? ⟨ib, 7, none⟩ = some (.slice A7 n6 c7) ∧ RdL W w5.heap.size A6 n6 c6 l6 ∧ RdL W w5.heap.size A7 n6 c7 l7 := fun W hW => by
    obtain ⟨hB, _, _, hI, _⟩ := k.facts W hW
    exact ⟨(hB.cell 6).trans (by rw [← e6]; rfl), (hI.cell 7).trans (by show some C.sigs = _; rw [e7]), r6.below hW, r7.below hW⟩
  have H := Lib.hid (And.intro k (And.intro h6 (And.intro hf (And.intro (hl7.trans hl6.symm) hsl))))
  clear k h6 hf r6 r7 g7 hl6 hl7 e6 e7 hn6 hn7 h8 hsl
  refine wp_seq_k fun K hK => ?_
  go_cut [] from 14 (fun wx => Below w5.heap.size w5 wx)
  case first =>
    go_wp2_with fail
    go_loopw [14] (fun i wr => ∃ j : Nat, j ≤ n6 ∧ i = .int .i64 (j : Int) ∧ Below w5.heap.size w5 wr) (fun i _ => n6 - (intOf i).toNat)
    case atStart => exact ⟨0, Nat.zero_le _, rfl, H.out.2.1⟩
    case round =>
      obtain ⟨j, hj, rfl, hb⟩ := hrel
      obtain ⟨x6, y7, r6', q7⟩ := H.out.2.2.1 wr hb
      by_cases hlt : j < n6
      · have hlt' : (j : Int) < n6 := by omega
        obtain ⟨b1, o1, A, n, c, xs, rfl, hbB, hlk, p1, hrd⟩ := r6'.get hlt
        obtain ⟨b2, o2, A', n', c', xs', rfl, hbB', hlk', t1, hrd'⟩ := q7.get hlt
        have e := congrArg (fun l => l[j]?) H.out.2.2.2.1
        simp only [List.getElem?_map, hlk, hlk', Option.map_some, Option.some.injEq] at e
        subst e
        have HQ := Lib.hid (And.intro hb (And.intro hrd hrd'))
        clear hb hrd hrd' r6' q7 hlk hlk'
        go_upto_region 22 with fail
        go_quiet ((go_at_call 21; exact Calls.quiet_of_same (eqbytes_same _ _ _ _ _ _ _ _ _ _ (HQ.out.2.2.keep fun _ _ => rfl) (HQ.out.2.1.keep fun _ _ => rfl))))
        go_wp2_with fail
        go_roundw
        case rel => exact ⟨j + 1, by omega, by go_num, below_drewN HQ.out.1 _⟩
        case measure => simp [intOf]; omega
      · obtain rfl : j = n6 := by omega
        have hge : ¬ (j : Int) < j := by omega
        have HQ := Lib.hid hb
        clear hb r6' q7 y7
        go_wp2_with fail
        go_meet
        exact HQ.out
  refine hK _ _ ?_
  exact back_tail9 H.out.1 H.out.2.2.2.2 wc hcut _ _ _ _ _ _ _ _ _ _ _ _ _ _ _ _ _ _ _ _ _ _ _ _ _ _ _ _ _ _ _ _ _ _ _ _ _ _ _ _ _ _ _ _ _ _ _ _ _ _ _ _ _ _ _ _ _ _ _ _ _ _ _ _ _ _ _ _ _ _ _ _ _ _ _ _ _ _ _ _ _ _ _ _ _ _ _ _ _ _ _ _ _ _ _ _ _ _ _ _ _ _ _ _ _ _ _ _ _ _ _ _ _ _ _ _ _ _ _ _ _ _ _ _ _ _ _ _ _ _ _ _ _ _ _ _ _ _ _ _ _ _ _ _ _ _ _ _ _ _ _ _ _ _ _ _ _ _ _ _ _ _ _ _ _ _ _ _ _ _ _ _ _ _ _ _ _ _ _ _ _ _ _ _ _ _ _ _ _ _ _ _ _ _ _ _ _ _
end Go.Proofs.YtlfajfmkljnodaaDoor
