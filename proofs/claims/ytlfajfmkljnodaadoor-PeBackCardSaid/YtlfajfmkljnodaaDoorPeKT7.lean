/- PeBack: the sections. -/
import Derived.Test.YtlfajfmkljnodaaDoorPeKT8
namespace Go.Proofs.YtlfajfmkljnodaaDoor
open Go.RowKit
set_option maxRecDepth 100000
set_option linter.unusedVariables false
set_option linter.unusedSimpArgs false

namespace Pe
def Shape.cnt (s : Shape) (i : Nat) : Nat := ((List.range i).filterMap (s.sec s.headers s.order')).length
theorem Shape.cnt_zero (s : Shape) : s.cnt 0 = 0 := rfl
theorem Shape.cnt_step (s : Shape) (i : Nat) : s.cnt (i + 1) = s.cnt i + if s.len i = 0 then 0 else 1 := by
  unfold Shape.cnt
  rw [List.range_succ, List.filterMap_append, List.length_append]
  congr 1
  simp only [List.filterMap_cons, List.filterMap_nil]
  unfold Shape.sec
  by_cases h : s.len i = 0
  · rw [if_pos h, if_pos h]; rfl
  · rw [if_neg h, if_neg h]; rfl
theorem Shape.cnt_all (s : Shape) : s.cnt s.bodies.length = s.secs.length := rfl
theorem Shape.cnt_at (s : Shape) {i : Nat} (hi : i < s.bodies.length) (h0 : s.len i ≠ 0) : s.secs[s.cnt i]? = some (s.pos s.headers s.order' i, s.len i) := by
  unfold Shape.secs Shape.cnt
  have hk : (List.range s.bodies.length)[i]? = some i := by rw [List.getElem?_range hi]
  have hf : s.sec s.headers s.order' i = some (s.pos s.headers s.order' i, s.len i) := by unfold Shape.sec; rw [if_neg h0]
  rw [filterMap_split hk hf, List.take_range, Nat.min_eq_left (by omega), List.getElem?_append_right (Nat.le_refl _), Nat.sub_self]
  rfl
end Pe
noncomputable def kTail7 : Code := tailOf 7 (codeOf Tryd.f4)
set_option maxHeartbeats 8000000 in
theorem back_tail7 {S : Pe.Shape} {b more : List UInt8} {w w5 : World} {V1 : ShV} {C : IV} {xb ib lo lo3 : Nat} {A3 : Option Addr} {n3 c3 : Nat} {Am : Option Addr} {nm cm : Nat} {cut : Int} {sl : Nat} (k : BK S b more w w5 V1 C xb ib lo lo3 A3 n3 c3 Am nm cm) (hsl : S.secs.length = sl) (w6 : World) (h6 : Below w5.heap.size w5 w6) (u0 u3 u4 u5 u6 u10 u12 u13 u14 u15 u16 u17 u18 u19 u20 u21 u22 u23 u24 u25 u26 u27 u28 u29 u30 u31 u32 u33 u34 u35 u36 u37 u38 u39 u40 u41 u42 u43 u44 u45 u46 u47 u48 u49 u50 u51 u52 u53 u54 u55 u56 u57 u58 u59 u60 u61 u62 u63 u64 u65 u66 u67 u68 u69 u70 u71 u72 u73 u74 u75 u76 u77 u78 u79 u80 u81 u82 u83 u84 u85 u86 u87 u88 u89 u90 u91 u92 u93 u94 u95 u96 u97 u98 u99 u100 u101 u102 u103 u104 u105 u106 u107 u108 u109 u110 u111 u112 u113 u114 u115 u116 u117 u118 u119 u120 u121 u122 u123 u124 u125 u126 u127 u128 u129 u130 u131 u132 u133 u134 u135 u136 u137 u138 u139 u140 u141 u142 u143 u144 u145 u146 u147 u148 u149 u150 u151 u152 u153 u154 u155 u156 u157 u158 u159 u160 u161 u162 u163 u164 u165 u166 u167 u168 u169 u170 u171 u172 u173 u174 u175 u176 u177 u178 u179 u180 u181 u182 u183 u184 u185 u186 u187 u188 u189 u190 u191 u192 u193 u194 u195 u196 u197 u198 u199 u200 u201 u202 u203 : Value) :
    kTail7.wp Tryd.prog (bodyPost Tryd.prog Tryd.f4 (fun e w' => e = .returned (.bool true) ∧ Below w.heap.size w w')) { tmps := (u0 :: Value.int .i64 cut :: Value.slice Am nm cm :: u3 :: u4 :: u5 :: u6 :: Value.pointer (some ⟨xb, 0, none⟩) :: Value.slice A3 n3 c3 :: Value.pointer (some ⟨ib, 0, none⟩) :: u10 :: Value.int .i64 0 :: u12 :: u13 :: u14 :: u15 :: u16 :: u17 :: u18 :: u19 :: u20 :: u21 :: u22 :: u23 :: u24 :: u25 :: u26 :: u27 :: u28 :: u29 :: u30 :: u31 :: u32 :: u33 :: u34 :: u35 :: u36 :: u37 :: u38 :: u39 :: u40 :: u41 :: u42 :: u43 :: u44 :: u45 :: u46 :: u47 :: u48 :: u49 :: u50 :: u51 :: u52 :: u53 :: u54 :: u55 :: u56 :: u57 :: u58 :: u59 :: u60 :: u61 :: u62 :: u63 :: u64 :: u65 :: u66 :: u67 :: u68 :: u69 :: u70 :: u71 :: u72 :: u73 :: u74 :: u75 :: u76 :: u77 :: u78 :: u79 :: u80 :: u81 :: u82 :: u83 :: u84 :: u85 :: u86 :: u87 :: u88 :: u89 :: u90 :: u91 :: u92 :: u93 :: u94 :: u95 :: u96 :: u97 :: u98 :: u99 :: u100 :: u101 :: u102 :: u103 :: u104 :: u105 :: u106 :: u107 :: u108 :: u109 :: u110 :: u111 :: u112 :: u113 :: u114 :: u115 :: u116 :: u117 :: u118 :: u119 :: u120 :: u121 :: u122 :: u123 :: u124 :: u125 :: u126 :: u127 :: u128 :: u129 :: u130 :: u131 :: u132 :: u133 :: u134 :: u135 :: u136 :: u137 :: u138 :: u139 :: u140 :: u141 :: u142 :: u143 :: u144 :: u145 :: u146 :: u147 :: u148 :: u149 :: u150 :: u151 :: u152 :: u153 :: u154 :: u155 :: u156 :: u157 :: u158 :: u159 :: u160 :: u161 :: u162 :: u163 :: u164 :: u165 :: u166 :: u167 :: u168 :: u169 :: u170 :: u171 :: u172 :: u173 :: u174 :: u175 :: u176 :: u177 :: u178 :: u179 :: u180 :: u181 :: u182 :: u183 :: u184 :: u185 :: u186 :: u187 :: u188 :: u189 :: u190 :: u191 :: u192 :: u193 :: u194 :: u195 :: u196 :: u197 :: u198 :: u199 :: u200 :: u201 :: u202 :: u203 :: []).toArray, defers := [] } w6 := by
  generalize hQ : bodyPost Tryd.prog Tryd.f4 (fun e w' => e = .returned (.bool true) ∧ Below w.heap.size w w') = Q
  unfold kTail7 codeOf
  simp only [Tryd.f4, tailOf, Option.getD_some]
  subst hQ
  obtain ⟨A6, n6, c6, l6, e6, r6, hl6⟩ := (k.facts w5 (Below.refl _ _)).2.1.bodies
  obtain ⟨A4, c4, e4, r4⟩ := (k.facts w5 (Below.refl _ _)).2.2.2.2.secs.rdS
  rw [Pe.secs_len_of k.img] at e4 r4
  rw [hsl] at e4 r4
  have hn6 : S.bodies.length = n6 := by rw [← hl6, List.length_map]; exact r6.len
  have hn10 := k.ho.ten
  rw [hn6] at hn10
  have hf : ∀ W, Below w5.heap.size w5 W → W.cell? ⟨xb, 3, none⟩ = some (.slice A6 n6 c6) ∧ W.cell? ⟨ib, 4, none⟩ = some (.slice A4 sl c4) ∧ RdL W w5.heap.size A6 n6 c6 l6 ∧ RdS W w5.heap.size A4 sl c4 S.secs ∧ Rd W w5.heap.size A3 n3 c3 b := fun W hW => by
    obtain ⟨hB, _, hO, hI, _⟩ := k.facts W hW
    obtain ⟨_, _, _, e3, hr3⟩ := hO.rd
    injection e3 with q1 q2 q3
    subst q1 q2 q3
    exact ⟨(hB.cell 3).trans (by rw [← e6]; rfl), (hI.cell 4).trans (by show some C.secs = _; rw [e4]), r6.below hW, r4.below hW, hr3⟩
  have hsl96 : sl ≤ 96 := by
    have := (Pe.right_of k.err).many
    rw [Pe.secs_len_of k.img, hsl] at this
    exact this
  have hbytes : ∀ i, i < n6 → S.len i ≠ 0 → (b.drop (S.pos S.headers S.order' i)).take (S.len i) = S.bodies.getD i [] ∧ S.pos S.headers S.order' i + S.len i ≤ b.length := fun i hi h0 => by
    have h1 := (Pe.Shape.write_made S k.ho).2.1 i (by rw [hn6]; exact hi) h0
    rw [k.wr] at h1
    have h2 := S.pos_le S.order' S.headers i ((Pe.order_mem _ _ i).2 (by rw [hn6]; exact hi))
    have h3 := k.read.made.fits
    exact ⟨h1, by omega⟩
  have hcs := S.cnt_step
  have hca : S.cnt n6 = sl := by rw [← hn6, S.cnt_all]; exact hsl
  have hcat : ∀ i, i < n6 → S.len i ≠ 0 → S.secs[S.cnt i]? = some (S.pos S.headers S.order' i, S.len i) := fun i hi h0 => S.cnt_at (by rw [hn6]; exact hi) h0
  have hlen := k.len
  have hsm := k.small
  have H := Lib.hid (And.intro k (And.intro h6 (And.intro hf (And.intro hl6 (And.intro hsl (And.intro hbytes (And.intro hcs (And.intro hca hcat))))))))
  clear k h6 hf r6 r4 hl6 e6 e4 hn6 hsl hbytes hcs hca hcat
  refine wp_seq_k fun K hK => ?_
  go_cut [11] from 12 (fun s11 wx => s11 = .int .i64 (sl : Int) ∧ Below w5.heap.size w5 wx)
  case first =>
    go_wp2_with fail
    go_loopw [11, 12, 13] (fun v i _ wr => ∃ j : Nat, j ≤ n6 ∧ i = .int .i64 (j : Int) ∧ v = .int .i64 (S.cnt j : Int) ∧ Below w5.heap.size w5 wr) (fun _ i _ _ => n6 - (intOf i).toNat)
    case atStart => exact ⟨0, Nat.zero_le _, rfl, rfl, H.out.2.1⟩
    case round =>
      obtain ⟨j, hj, rfl, rfl, hb⟩ := hrel
      obtain ⟨x3, y4, r6', q4, r3⟩ := H.out.2.2.1 wr hb
      by_cases hlt : j < n6
      · have hlt' : (j : Int) < n6 := by omega
        obtain ⟨b1, o1, A, n, c, xs, rfl, hbB, hlk, p1, hrd⟩ := r6'.get hlt
        have hxl := hrd.len
        have hgd : S.bodies.getD j [] = xs := by rw [List.getD_eq_getElem?_getD, ← H.out.2.2.2.1, List.getElem?_map, hlk]; rfl
        have hSl : S.len j = n := by unfold Pe.Shape.len; rw [hgd]; exact hxl
        have hst := H.out.2.2.2.2.2.2.1 j
        by_cases h0 : n = 0
        · rw [if_pos (by rw [hSl]; exact h0), Nat.add_zero] at hst
          have HQ := Lib.hid (And.intro hb hst)
          clear hb hst hrd r6' q4 r3 hlk hgd hSl
          subst h0
          go_wp2_with fail
          go_roundw
          case rel => exact ⟨j + 1, by omega, by go_num, by rw [HQ.out.2]; rfl, HQ.out.1⟩
          case measure => simp [intOf]; omega
        · have hS0 : S.len j ≠ 0 := by rw [hSl]; exact h0
          rw [if_neg hS0] at hst
          have h0' : ((n : Int) == 0) = false := by simp; omega
          obtain ⟨hby, hpl⟩ := H.out.2.2.2.2.2.1 j hlt hS0
          have hct := H.out.2.2.2.2.2.2.2.2 j hlt hS0
          obtain ⟨ps, hps⟩ : ∃ p, S.pos S.headers S.order' j = p := ⟨_, rfl⟩
          rw [hps, hSl] at hby hpl hct
          rw [hgd] at hby
          obtain ⟨ct, hctn⟩ : ∃ x, S.cnt j = x := ⟨_, rfl⟩
          rw [hctn] at hct hst ⊢
          have hcl : ct < sl := by
            have h1 := (List.getElem?_eq_some_iff.1 hct).1
            rw [H.out.2.2.2.2.1] at h1
            exact h1
          have hcl' : ¬ ((sl : Int) ≤ ct) := by omega
          have hcl2 : (ct : Int) < sl := by omega
          obtain ⟨b2, o2, x2, rfl, hb2, hx2, p2, p3⟩ := q4.get hcl
          obtain rfl : (ps, n) = x2 := Option.some.inj (hct.symm.trans hx2)
          dsimp only at p2 p3
          have g1 : ¬ ((ps : Int) > n3) := by omega
          have g2 : ¬ ((n : Int) > (n3 : Int) - ps) := by omega
          have d1 : decide ((n3 : Int) < (ps : Int)) = false := by simp; omega
          have d2 : decide ((n3 : Int) - (ps : Int) < (n : Int)) = false := by simp; omega
          have w1' : IntKind.i64.wrap (n : Int) = (n : Int) := by rw [IntKind.wrap_i64]; omega
          have w2' : IntKind.i64.wrap (ps : Int) = (ps : Int) := by rw [IntKind.wrap_i64]; omega
          have w3' : IntKind.i64.wrap ((n3 : Int) - (ps : Int)) = (n3 : Int) - (ps : Int) := by rw [IntKind.wrap_i64]; omega
          have w4' : IntKind.i64.wrap ((ps : Int) + (n : Int)) = (ps : Int) + (n : Int) := by rw [IntKind.wrap_i64]; omega
          obtain ⟨Ac, hrc, run1, run2⟩ := run_cut r3 ps (ps + n) ps ((ps : Int) + (n : Int)) rfl (by omega) (by omega) (by omega)
          rw [List.drop_take, show ps + n - ps = n by omega, hby] at hrc
          rw [show ps + n - ps = n by omega] at run1 run2
          have HQ := Lib.hid (And.intro hb (And.intro hst (And.intro hrd hrc)))
          clear hb hst hrd hrc r6' q4 r3 hlk hgd hSl hby hct hx2 hps
          go_upto_region 13 with fail
          go_quiet (fail)
          go_upto_region 16 with fail
          go_quiet ((go_at_call 21; exact Calls.mono (eqbytes_same Ac A n (c3 - ps) n c xs w5.heap.size w5.heap.size (wr.drewN _) (HQ.out.2.2.2.keep fun _ _ => rfl) (HQ.out.2.2.1.keep fun _ _ => rfl)) fun _ _ h => ⟨h.1, _, h.2⟩))
          go_wp2_with fail
          go_roundw
          case rel => exact ⟨j + 1, by omega, by go_num, by rw [HQ.out.2.1]; go_num, by first | exact below_drewN (below_drewN HQ.out.1 _) _ | exact below_drewN HQ.out.1 _⟩
          case measure => simp [intOf]; omega
      · obtain rfl : j = n6 := by omega
        have hge : ¬ (j : Int) < j := by omega
        have HQ := Lib.hid hb
        rw [H.out.2.2.2.2.2.2.2.1]
        clear hb r6' q4 r3 y4
        go_wp2_with fail
        go_meet
        exact ⟨rfl, HQ.out⟩
  obtain ⟨rfl, hcut⟩ := hcut
  refine hK _ _ ?_
  exact back_tail8 H.out.1 H.out.2.2.2.2.1 wc hcut _ _ _ _ _ _ _ _ _ _ _ _ _ _ _ _ _ _ _ _ _ _ _ _ _ _ _ _ _ _ _ _ _ _ _ _ _ _ _ _ _ _ _ _ _ _ _ _ _ _ _ _ _ _ _ _ _ _ _ _ _ _ _ _ _ _ _ _ _ _ _ _ _ _ _ _ _ _ _ _ _ _ _ _ _ _ _ _ _ _ _ _ _ _ _ _ _ _ _ _ _ _ _ _ _ _ _ _ _ _ _ _ _ _ _ _ _ _ _ _ _ _ _ _ _ _ _ _ _ _ _ _ _ _ _ _ _ _ _ _ _ _ _ _ _ _ _ _ _ _ _ _ _ _ _ _ _ _ _ _ _ _ _ _ _ _ _ _ _ _ _ _ _ _ _ _ _ _ _ _ _ _ _ _ _ _ _ _ _ _ _ _ _ _ _ _ _ _
end Go.Proofs.YtlfajfmkljnodaaDoor
