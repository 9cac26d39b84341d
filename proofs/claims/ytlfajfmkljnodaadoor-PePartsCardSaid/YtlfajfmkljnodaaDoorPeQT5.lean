/- PeParts: each section, and those ahead of it. -/
import Derived.Test.YtlfajfmkljnodaaDoorPeQT6
namespace Go.Proofs.YtlfajfmkljnodaaDoor
open Go.RowKit
set_option maxRecDepth 100000
set_option linter.unusedVariables false
set_option linter.unusedSimpArgs false

theorem sizes_snoc {l : List (Nat × Nat)} {k : Nat} {x : Nat × Nat} (h : l[k]? = some x) : Pe.sizes (l.take (k + 1)) = Pe.sizes (l.take k) + x.2 := by
  rw [take_snoc h]
  unfold Pe.sizes
  rw [List.map_append, List.sum_append]
  simp
theorem pair_at {l : List (Nat × Nat)} (h : l.Pairwise Pe.Apart2) {j k : Nat} {x y : Nat × Nat} (hj : l[j]? = some x) (hk : l[k]? = some y) (hlt : j < k) : Pe.Apart2 x y := by
  obtain ⟨h1, rfl⟩ := List.getElem?_eq_some_iff.1 hj
  obtain ⟨h2, rfl⟩ := List.getElem?_eq_some_iff.1 hk
  exact List.pairwise_iff_getElem.1 h j k h1 h2 hlt
noncomputable def qTail5 : Code := tailOf 5 (codeOf Tryd.f5)
set_option maxHeartbeats 8000000 in
theorem parts_tail5 {W0 : World} {w : World} {n c ck dr hd tb ln sum m s c4 c7 I : Nat} {A A4 A7 : Option Addr} {pl : Bool} {l : List (Nat × Nat)} (k : PQ l n ck dr hd tb ln sum m s) (hbw : Below w.heap.size w W0) (hI : w.heap.size ≤ I ∧ I < W0.heap.size) (hB : Bi W0 I ⟨pl, ck, dr, hd, .slice A4 m c4, tb, ln, .slice A7 s c7⟩) (hS : RdS W0 W0.heap.size A4 m c4 l) (w3 : World) (hb : Below W0.heap.size W0 w3) (u1 u2 u4 u6 u7 u8 u9 u10 u11 u12 u13 u14 u15 u16 u17 u18 u19 u20 u21 u22 u23 u24 u25 u26 u27 u28 u29 u30 u31 u32 u33 u34 u35 u36 u37 u38 u39 u40 u41 u42 u43 u44 u45 u46 u47 u48 u49 u50 u51 u52 u53 u54 u55 u56 u57 u58 u59 u60 u61 u62 u63 u64 u65 u66 u67 u68 u69 u70 u71 u72 u73 u74 u75 u76 u77 u78 u79 u80 u81 u82 u83 u84 u85 u86 u87 u88 u89 u90 u91 u92 u93 u94 u95 u96 u97 u98 u99 u100 u101 u102 u103 u104 u105 u106 u107 u108 u109 u110 u111 u112 u113 u114 u115 u116 u117 u118 u119 u120 u121 u122 u123 u124 u125 u126 u127 u128 u129 u130 u131 u132 u133 u134 u135 u136 u137 u138 u139 u140 u141 u142 u143 u144 u145 u146 u147 u148 u149 u150 u151 u152 u153 u154 u155 u156 u157 u158 u159 u160 u161 u162 u163 u164 u165 u166 u167 u168 u169 u170 u171 u172 u173 u174 u175 u176 u177 u178 u179 u180 u181 u182 u183 u184 u185 u186 u187 u188 u189 u190 u191 u192 u193 u194 u195 u196 u197 u198 u199 u200 u201 u202 u203 u204 u205 u206 u207 u208 u209 u210 u211 u212 u213 u214 u215 u216 : Value) :
    qTail5.wp Tryd.prog (bodyPost Tryd.prog Tryd.f5 (fun e w' => e = .returned (.bool true) ∧ Below w.heap.size w w')) { tmps := (Value.slice A n c :: u1 :: u2 :: Value.pointer (some ⟨I, 0, none⟩) :: u4 :: Value.int .i64 (hd : Int) :: u6 :: u7 :: u8 :: u9 :: u10 :: u11 :: u12 :: u13 :: u14 :: u15 :: u16 :: u17 :: u18 :: u19 :: u20 :: u21 :: u22 :: u23 :: u24 :: u25 :: u26 :: u27 :: u28 :: u29 :: u30 :: u31 :: u32 :: u33 :: u34 :: u35 :: u36 :: u37 :: u38 :: u39 :: u40 :: u41 :: u42 :: u43 :: u44 :: u45 :: u46 :: u47 :: u48 :: u49 :: u50 :: u51 :: u52 :: u53 :: u54 :: u55 :: u56 :: u57 :: u58 :: u59 :: u60 :: u61 :: u62 :: u63 :: u64 :: u65 :: u66 :: u67 :: u68 :: u69 :: u70 :: u71 :: u72 :: u73 :: u74 :: u75 :: u76 :: u77 :: u78 :: u79 :: u80 :: u81 :: u82 :: u83 :: u84 :: u85 :: u86 :: u87 :: u88 :: u89 :: u90 :: u91 :: u92 :: u93 :: u94 :: u95 :: u96 :: u97 :: u98 :: u99 :: u100 :: u101 :: u102 :: u103 :: u104 :: u105 :: u106 :: u107 :: u108 :: u109 :: u110 :: u111 :: u112 :: u113 :: u114 :: u115 :: u116 :: u117 :: u118 :: u119 :: u120 :: u121 :: u122 :: u123 :: u124 :: u125 :: u126 :: u127 :: u128 :: u129 :: u130 :: u131 :: u132 :: u133 :: u134 :: u135 :: u136 :: u137 :: u138 :: u139 :: u140 :: u141 :: u142 :: u143 :: u144 :: u145 :: u146 :: u147 :: u148 :: u149 :: u150 :: u151 :: u152 :: u153 :: u154 :: u155 :: u156 :: u157 :: u158 :: u159 :: u160 :: u161 :: u162 :: u163 :: u164 :: u165 :: u166 :: u167 :: u168 :: u169 :: u170 :: u171 :: u172 :: u173 :: u174 :: u175 :: u176 :: u177 :: u178 :: u179 :: u180 :: u181 :: u182 :: u183 :: u184 :: u185 :: u186 :: u187 :: u188 :: u189 :: u190 :: u191 :: u192 :: u193 :: u194 :: u195 :: u196 :: u197 :: u198 :: u199 :: u200 :: u201 :: u202 :: u203 :: u204 :: u205 :: u206 :: u207 :: u208 :: u209 :: u210 :: u211 :: u212 :: u213 :: u214 :: u215 :: u216 :: []).toArray, defers := [] } w3 := by
  generalize hQ : bodyPost Tryd.prog Tryd.f5 (fun e w' => e = .returned (.bool true) ∧ Below w.heap.size w w') = Q
  unfold qTail5 codeOf
  simp only [Tryd.f5, tailOf, Option.getD_some]
  subst hQ
  have hf : ∀ W, Below W0.heap.size W0 W → W.cell? ⟨I, 3, none⟩ = some (.int .u32 (hd : Int)) ∧ W.cell? ⟨I, 4, none⟩ = some (.slice A4 m c4) ∧ RdS W W0.heap.size A4 m c4 l := fun W hW => ⟨(hB.below hW hB.lt).cell 3, (hB.below hW hB.lt).cell 4, hS.below hW⟩
  have hm96 := k.c5
  have hnl := k.nl
  have hsn := k.sn
  have hhn := k.c4
  have hsz : ∀ j, j ≤ m → hd + Pe.sizes (l.take j) ≤ 16384 + 4294967296 * 96 := fun j hj => by
    have h1 : Pe.sizes (l.take j) ≤ Pe.sizes l := by
      conv => rhs; rw [← List.take_append_drop j l]
      unfold Pe.sizes
      rw [List.map_append, List.sum_append]
      omega
    have := k.sum_
    omega
  have H := Lib.hid (And.intro k (And.intro hbw (And.intro hI (And.intro hB (And.intro hS (And.intro hb (And.intro hf hsz)))))))
  clear k hbw hB hS hb hf hsz
  refine wp_seq_k fun K hK => ?_
  go_cut [5] from 6 (fun s5 wx => s5 = .int .i64 (sum : Int) ∧ Below W0.heap.size W0 wx)
  case first =>
    go_wp2_with fail
    go_loopw [5, 6, 7, 8, 9] (fun v i _ _ _ wr => ∃ k : Nat, k ≤ m ∧ i = .int .i64 (k : Int) ∧ v = .int .i64 ((hd + Pe.sizes (l.take k) : Nat) : Int) ∧ Below W0.heap.size W0 wr) (fun _ i _ _ _ _ => m - (intOf i).toNat)
    case atStart => exact ⟨0, Nat.zero_le _, rfl, by simp [Pe.sizes], H.out.2.2.2.2.2.1⟩
    case round =>
      obtain ⟨k, hk, rfl, rfl, hb⟩ := hrel
      obtain ⟨k3, k4, hr⟩ := H.out.2.2.2.2.2.2.1 wr hb
      have hzk := H.out.2.2.2.2.2.2.2 k hk
      by_cases hlt : k < m
      · have hlt' : (k : Int) < m := by omega
        obtain ⟨b, o, ⟨x1, x2⟩, rfl, hbB, hx, q1, q2⟩ := hr.get hlt
        obtain ⟨y1, y2, y3⟩ := H.out.1.each _ (List.mem_of_getElem? hx)
        have hsn1 := sizes_snoc hx
        dsimp only at q1 q2 y1 y2 y3 hsn1
        obtain ⟨sk, hsk⟩ : ∃ sk, hd + Pe.sizes (l.take k) = sk := ⟨_, rfl⟩
        rw [hsk] at hzk ⊢
        have hz : ((x2 : Int) == 0) = false := by simp; omega
        have g1 : ¬ ((x1 : Int) < hd) := by omega
        have g2 : ¬ ((x1 : Int) + x2 > n) := by omega
        have hal := (Below.refl wr.heap.size wr).alloc (Nat.le_refl _) (.cells #[.int .u32 (x1 : Int), .int .u32 (x2 : Int)] 43)
        obtain ⟨Wa, hWa⟩ : ∃ Wa, wr.alloc (.cells #[.int .u32 (x1 : Int), .int .u32 (x2 : Int)] 43) = Wa := ⟨_, rfl⟩
        have hXa : Blk Wa wr.heap.size 43 #[.int .u32 (x1 : Int), .int .u32 (x2 : Int)] := by rw [← hWa]; exact Blk.new _ _ _
        have hba : Below W0.heap.size W0 Wa := by rw [← hWa]; exact hb.alloc hb.size _
        have hsa : Wa.heap.size = wr.heap.size + 1 := by rw [← hWa]; simp
        have HO := Lib.hid (And.intro hb (And.intro hx (And.intro hsk (And.intro hsn1 (And.intro hXa (And.intro hba (And.intro hsa hWa)))))))
        clear hb hr hx hsn1 hXa hba hWa hsk hal hsa
        go_upto_region 11 with fail
        rw [HO.out.2.2.2.2.2.2.2]
        have a0 : Wa.cell? ⟨wr.heap.size, 0, none⟩ = some (.int .u32 (x1 : Int)) := HO.out.2.2.2.2.1.cell 0
        have a1 : Wa.cell? ⟨wr.heap.size, 1, none⟩ = some (.int .u32 (x2 : Int)) := HO.out.2.2.2.2.1.cell 1
        have k3' := (H.out.2.2.2.2.2.2.1 Wa HO.out.2.2.2.2.2.1).1
        go_wp2_with fail
        clear a0 a1 k3' k3 k4 q1 q2
        obtain ⟨wo, hwo⟩ : ∃ x, x = wr := ⟨_, rfl⟩
        subst hwo
        go_loopw [8, 9] (fun i _ wr => ∃ j : Nat, j ≤ k ∧ i = .int .i64 (j : Int) ∧ Below Wa.heap.size Wa wr) (fun i _ _ => k - (intOf i).toNat)
        case atStart => exact ⟨0, Nat.zero_le _, rfl, Below.refl _ _⟩
        case round =>
          obtain ⟨j, hj, rfl, hq⟩ := hrel
          have hq0 : Below W0.heap.size W0 wr := HO.out.2.2.2.2.2.1.trans (hq.mono HO.out.2.2.2.2.2.1.size)
          obtain ⟨_, k4, hr⟩ := H.out.2.2.2.2.2.2.1 wr hq0
          have hXq : Blk wr wo.heap.size 43 #[.int .u32 (x1 : Int), .int .u32 (x2 : Int)] := HO.out.2.2.2.2.1.below hq HO.out.2.2.2.2.1.lt
          have a0 : wr.cell? ⟨wo.heap.size, 0, none⟩ = some (.int .u32 (x1 : Int)) := hXq.cell 0
          have a1 : wr.cell? ⟨wo.heap.size, 1, none⟩ = some (.int .u32 (x2 : Int)) := hXq.cell 1
          by_cases hlj : j < k
          · have hlj' : (j : Int) < k := by omega
            obtain ⟨b', o', ⟨y1', y2'⟩, e, hbB', hy, p1, p2⟩ := hr.get (show j < m by omega)
            injection e with e
            injection e with e1 e2
            subst e1 e2
            obtain ⟨z1, z2, z3⟩ := H.out.1.each _ (List.mem_of_getElem? hy)
            have hap := pair_at H.out.1.apart hy HO.out.2.1 hlj
            unfold Pe.Apart2 at hap
            dsimp only at p1 p2 z1 z2 z3 hap
            obtain ⟨Wq, hWq⟩ : ∃ Wq, wr.alloc (.cells #[.int .u32 (y1' : Int), .int .u32 (y2' : Int)] 43) = Wq := ⟨_, rfl⟩
            have hXt : Blk Wq wr.heap.size 43 #[.int .u32 (y1' : Int), .int .u32 (y2' : Int)] := by rw [← hWq]; exact Blk.new _ _ _
            have hXs : Blk Wq wo.heap.size 43 #[.int .u32 (x1 : Int), .int .u32 (x2 : Int)] := by rw [← hWq]; exact hXq.alloc _
            have hqq : Below Wa.heap.size Wa Wq := by rw [← hWq]; exact hq.alloc hq.size _
            have HQ := Lib.hid (And.intro hqq (And.intro hXt (And.intro hXs (And.intro hap hWq))))
            clear hqq hXt hXs hWq hq hq0 hr hXq hy z1 z2
            go_upto_region 17 with fail
            rw [HQ.out.2.2.2.2]
            clear a0 a1 k4 p1 p2
            have a0 : Wq.cell? ⟨wo.heap.size, 0, none⟩ = some (.int .u32 (x1 : Int)) := HQ.out.2.2.1.cell 0
            have a1 : Wq.cell? ⟨wo.heap.size, 1, none⟩ = some (.int .u32 (x2 : Int)) := HQ.out.2.2.1.cell 1
            have b0 : Wq.cell? ⟨wr.heap.size, 0, none⟩ = some (.int .u32 (y1' : Int)) := HQ.out.2.1.cell 0
            have b1 : Wq.cell? ⟨wr.heap.size, 1, none⟩ = some (.int .u32 (y2' : Int)) := HQ.out.2.1.cell 1
            by_cases c1 : (x1 : Int) < (y1' : Int) + y2'
            · have c2 : ¬ ((y1' : Int) < (x1 : Int) + x2) := by have := HQ.out.2.2.2.1; omega
              go_wp2_with fail
              go_roundw
              case rel => exact ⟨j + 1, by omega, by go_num, HQ.out.1⟩
              case measure => simp [intOf]; omega
            · go_wp2_with fail
              go_roundw
              case rel => exact ⟨j + 1, by omega, by go_num, HQ.out.1⟩
              case measure => simp [intOf]; omega
          · obtain rfl : j = k := by omega
            have hge : ¬ (j : Int) < j := by omega
            have HQ := Lib.hid hq0
            clear hq hq0 hr hXq a0 k4
            go_wp2_with fail
            go_roundw
            case rel => exact ⟨j + 1, by omega, by go_num, by rw [HO.out.2.2.2.1, ← Nat.add_assoc, HO.out.2.2.1]; go_num, HQ.out⟩
            case measure => simp [intOf]; omega
      · obtain rfl : k = m := by omega
        have hge : ¬ (k : Int) < k := by omega
        have HO := Lib.hid hb
        have he : hd + Pe.sizes (l.take k) = sum := by rw [List.take_of_length_le (by rw [H.out.1.len]; exact Nat.le_refl _), H.out.1.sum_]
        rw [he]
        clear hb hr he
        go_wp2_with fail
        go_meet
        exact ⟨rfl, HO.out⟩
  obtain ⟨rfl, hcut⟩ := hcut
  refine hK _ _ ?_
  exact parts_tail6 H.out.1 H.out.2.1 H.out.2.2.1 H.out.2.2.2.1 H.out.2.2.2.2.1 wc hcut _ _ _ _ _ _ _ _ _ _ _ _ _ _ _ _ _ _ _ _ _ _ _ _ _ _ _ _ _ _ _ _ _ _ _ _ _ _ _ _ _ _ _ _ _ _ _ _ _ _ _ _ _ _ _ _ _ _ _ _ _ _ _ _ _ _ _ _ _ _ _ _ _ _ _ _ _ _ _ _ _ _ _ _ _ _ _ _ _ _ _ _ _ _ _ _ _ _ _ _ _ _ _ _ _ _ _ _ _ _ _ _ _ _ _ _ _ _ _ _ _ _ _ _ _ _ _ _ _ _ _ _ _ _ _ _ _ _ _ _ _ _ _ _ _ _ _ _ _ _ _ _ _ _ _ _ _ _ _ _ _ _ _ _ _ _ _ _ _ _ _ _ _ _ _ _ _ _ _ _ _ _ _ _ _ _ _ _ _ _ _ _ _ _ _ _ _ _ _ _ _ _ _ _ _ _ _ _ _ _ _ _ _ _
end Go.Proofs.YtlfajfmkljnodaaDoor
