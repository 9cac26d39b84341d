/- The end of PeParts: what holds of the numbers. -/
import Derived.Test.YtlfajfmkljnodaaDoorPeWorks
import Derived.Test.YtlfajfmkljnodaaDoorPC
namespace Go.Proofs.YtlfajfmkljnodaaDoor
open Go.RowKit
set_option maxRecDepth 100000
set_option linter.unusedVariables false
set_option linter.unusedSimpArgs false

/-- What PeParts asks of an image. -/
structure PQ (l : List (Nat × Nat)) (n ck dr hd tb ln sum m s : Nat) : Prop where
  nl : n ≤ 16384
  c1 : 64 ≤ ck
  c2 : ck + 4 ≤ dr
  c3 : dr + 8 ≤ hd
  c4 : hd ≤ n
  c5 : m ≤ 96
  c6 : s ≤ 8
  len : l.length = m
  sum_ : sum = hd + Pe.sizes l
  sn : sum ≤ n
  bare : ln = 0 → tb = 0 ∧ s = 0
  tab : ln ≠ 0 → sum ≤ tb ∧ tb % 8 = 0 ∧ tb + ln = n ∧ 0 < s
  each : ∀ x ∈ l, 0 < x.2 ∧ hd ≤ x.1 ∧ x.1 + x.2 ≤ sum
  apart : l.Pairwise Pe.Apart2
noncomputable def qTail7 : Code := tailOf 7 (codeOf Tryd.f5)
set_option maxHeartbeats 4000000 in
theorem parts_tail7 {W0 : World} {w : World} {n c ck dr hd tb ln sum m s c4 c7 I : Nat} {A A4 A7 : Option Addr} {pl : Bool} {l : List (Nat × Nat)} (k : PQ l n ck dr hd tb ln sum m s) (hbw : Below w.heap.size w W0) (hI : w.heap.size ≤ I ∧ I < W0.heap.size) (hB : Bi W0 I ⟨pl, ck, dr, hd, .slice A4 m c4, tb, ln, .slice A7 s c7⟩) (hS : RdS W0 W0.heap.size A4 m c4 l) (w3 : World) (hb : Below W0.heap.size W0 w3) (u1 u2 u4 u6 u7 u8 u9 u10 u11 u12 u13 u14 u15 u16 u17 u18 u19 u20 u21 u22 u23 u24 u25 u26 u27 u28 u29 u30 u31 u32 u33 u34 u35 u36 u37 u38 u39 u40 u41 u42 u43 u44 u45 u46 u47 u48 u49 u50 u51 u52 u53 u54 u55 u56 u57 u58 u59 u60 u61 u62 u63 u64 u65 u66 u67 u68 u69 u70 u71 u72 u73 u74 u75 u76 u77 u78 u79 u80 u81 u82 u83 u84 u85 u86 u87 u88 u89 u90 u91 u92 u93 u94 u95 u96 u97 u98 u99 u100 u101 u102 u103 u104 u105 u106 u107 u108 u109 u110 u111 u112 u113 u114 u115 u116 u117 u118 u119 u120 u121 u122 u123 u124 u125 u126 u127 u128 u129 u130 u131 u132 u133 u134 u135 u136 u137 u138 u139 u140 u141 u142 u143 u144 u145 u146 u147 u148 u149 u150 u151 u152 u153 u154 u155 u156 u157 u158 u159 u160 u161 u162 u163 u164 u165 u166 u167 u168 u169 u170 u171 u172 u173 u174 u175 u176 u177 u178 u179 u180 u181 u182 u183 u184 u185 u186 u187 u188 u189 u190 u191 u192 u193 u194 u195 u196 u197 u198 u199 u200 u201 u202 u203 u204 u205 u206 u207 u208 u209 u210 u211 u212 u213 u214 u215 u216 : Value) :
    qTail7.wp Tryd.prog (bodyPost Tryd.prog Tryd.f5 (fun e w' => e = .returned (.bool true) ∧ Below w.heap.size w w')) { tmps := (Value.slice A n c :: u1 :: u2 :: Value.pointer (some ⟨I, 0, none⟩) :: u4 :: Value.int .i64 (sum : Int) :: u6 :: u7 :: u8 :: u9 :: u10 :: u11 :: u12 :: u13 :: u14 :: u15 :: u16 :: u17 :: u18 :: u19 :: u20 :: u21 :: u22 :: u23 :: u24 :: u25 :: u26 :: u27 :: u28 :: u29 :: u30 :: u31 :: u32 :: u33 :: u34 :: u35 :: u36 :: u37 :: u38 :: u39 :: u40 :: u41 :: u42 :: u43 :: u44 :: u45 :: u46 :: u47 :: u48 :: u49 :: u50 :: u51 :: u52 :: u53 :: u54 :: u55 :: u56 :: u57 :: u58 :: u59 :: u60 :: u61 :: u62 :: u63 :: u64 :: u65 :: u66 :: u67 :: u68 :: u69 :: u70 :: u71 :: u72 :: u73 :: u74 :: u75 :: u76 :: u77 :: u78 :: u79 :: u80 :: u81 :: u82 :: u83 :: u84 :: u85 :: u86 :: u87 :: u88 :: u89 :: u90 :: u91 :: u92 :: u93 :: u94 :: u95 :: u96 :: u97 :: u98 :: u99 :: u100 :: u101 :: u102 :: u103 :: u104 :: u105 :: u106 :: u107 :: u108 :: u109 :: u110 :: u111 :: u112 :: u113 :: u114 :: u115 :: u116 :: u117 :: u118 :: u119 :: u120 :: u121 :: u122 :: u123 :: u124 :: u125 :: u126 :: u127 :: u128 :: u129 :: u130 :: u131 :: u132 :: u133 :: u134 :: u135 :: u136 :: u137 :: u138 :: u139 :: u140 :: u141 :: u142 :: u143 :: u144 :: u145 :: u146 :: u147 :: u148 :: u149 :: u150 :: u151 :: u152 :: u153 :: u154 :: u155 :: u156 :: u157 :: u158 :: u159 :: u160 :: u161 :: u162 :: u163 :: u164 :: u165 :: u166 :: u167 :: u168 :: u169 :: u170 :: u171 :: u172 :: u173 :: u174 :: u175 :: u176 :: u177 :: u178 :: u179 :: u180 :: u181 :: u182 :: u183 :: u184 :: u185 :: u186 :: u187 :: u188 :: u189 :: u190 :: u191 :: u192 :: u193 :: u194 :: u195 :: u196 :: u197 :: u198 :: u199 :: u200 :: u201 :: u202 :: u203 :: u204 :: u205 :: u206 :: u207 :: u208 :: u209 :: u210 :: u211 :: u212 :: u213 :: u214 :: u215 :: u216 :: []).toArray, defers := [] } w3 := by
  generalize hQ : bodyPost Tryd.prog Tryd.f5 (fun e w' => e = .returned (.bool true) ∧ Below w.heap.size w w') = Q
  unfold qTail7 codeOf
  simp only [Tryd.f5, tailOf, Option.getD_some]
  subst hQ
  have hBw := hB.below hb hB.lt
  have k1 : w3.cell? ⟨I, 1, none⟩ = some (.int .i64 (ck : Int)) := hBw.cell 1
  have k2 : w3.cell? ⟨I, 2, none⟩ = some (.int .i64 (dr : Int)) := hBw.cell 2
  have k3 : w3.cell? ⟨I, 3, none⟩ = some (.int .u32 (hd : Int)) := hBw.cell 3
  have k4 : w3.cell? ⟨I, 4, none⟩ = some (.slice A4 m c4) := hBw.cell 4
  have k5 : w3.cell? ⟨I, 5, none⟩ = some (.int .u32 (tb : Int)) := hBw.cell 5
  have k6 : w3.cell? ⟨I, 6, none⟩ = some (.int .u32 (ln : Int)) := hBw.cell 6
  have k7 : w3.cell? ⟨I, 7, none⟩ = some (.slice A7 s c7) := hBw.cell 7
  obtain ⟨p0, p1, p2, p3, p4, p5, p6, p7, p8, p9, p10, p11, p12, p13⟩ := k
  have hbw3 : Below w.heap.size w w3 := hbw.trans (hb.mono hbw.size)
  have H := Lib.hid (And.intro hbw3 (And.intro p10 p11))
  clear hB hBw hb hbw p10 p11 p12 p13 hbw3 hS p7 p8
  have g1 : ¬ ((ck : Int) < 64) := by omega
  have g2 : ¬ ((ck : Int) + 4 > (dr : Int)) := by omega
  have g3 : ¬ ((dr : Int) + 8 > (hd : Int)) := by omega
  have g4 : ¬ ((hd : Int) > (n : Int)) := by omega
  have g5 : ¬ ((m : Int) > 96) := by omega
  have g6 : ¬ ((s : Int) > 8) := by omega
  by_cases h0 : ln = 0
  · obtain ⟨rfl, rfl⟩ := H.out.2.1 h0
    subst h0
    go_wp2_with fail
    refine (works_any w3).mono ?_
    rintro e w4 ⟨rfl, h4⟩
    have H4 := Lib.hid (H.out.1.trans (h4.mono H.out.1.size))
    clear h4
    go_wp2_with fail
    go_ret
    exact ⟨rfl, H4.out⟩
  · obtain ⟨q1, q2, q3, q4⟩ := H.out.2.2 h0
    have hz : ((ln : Int) == 0) = false := by simp; omega
    have hmod : Int.tmod (tb : Int) 8 = 0 := by rw [show Int.tmod (tb : Int) 8 = ((tb % 8 : Nat) : Int) from rfl, q2]; rfl
    have r1 : (sum : Int) ≤ tb := by omega
    have r3 : (tb : Int) + ln = n := by omega
    have r4 : (0 : Int) < s := by omega
    clear q1 q2 q3 q4
    go_wp2_with fail
    refine (works_any w3).mono ?_
    rintro e w4 ⟨rfl, h4⟩
    have H4 := Lib.hid (H.out.1.trans (h4.mono H.out.1.size))
    clear h4
    go_wp2_with fail
    go_ret
    exact ⟨rfl, H4.out⟩
end Go.Proofs.YtlfajfmkljnodaaDoor
