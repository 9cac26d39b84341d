/- The end of parse: the certificate table. -/
import Derived.Test.YtmpladnglfiejaaGreatDoorPF
namespace Go.Proofs.YtmpladnglfiejaaGreatDoor
open Go.RowKit Go.Shelf
attribute [local go_sem] Oper.semAt_some
set_option maxRecDepth 100000
set_option linter.unusedVariables false
set_option linter.unusedSimpArgs false

noncomputable def pTail19 : Code := tailOf 19 (codeOf Tryz.f32)
set_option maxHeartbeats 4000000 in
theorem parse_tail19 {w : World} {g n c pe many size magic dirs kd hdrs m1 c1 en fr ln hi : Nat} {A A1 : Option Addr} {xs : List UInt8} {la plus : Bool} {ft : Bool} (k : KB xs n pe dirs hdrs m1 en fr ln la plus) (hr : Rd w g A n c xs) (hn : n ≤ 16777216) (hgl0 : g < w.heap.size)
    (hbare : Pe.bare xs = false) (hfrx : Pe.from_ xs = fr) (hlnx : Pe.length xs = ln) (hft : (la && Pe.tabled xs) = ft) (w16 : World) (hcut : PB w g w.heap.size (.slice A n c) ft {IV.zero with plus := plus, check := pe + 88, dir := dirs + 32, headers := hdrs, secs := .slice A1 m1 c1} xs hi m1 w16) (u16 u17 u18 u19 u20 u21 u22 u23 u24 u25 u26 u27 u28 u29 u30 u31 u32 u33 u34 u35 u36 u37 u38 u39 u40 u41 u42 u43 u44 u45 u46 u47 u48 u49 u50 u51 u52 u53 u54 u55 u56 u57 u58 u59 u60 u61 u62 u63 u64 u65 u66 u67 u68 u69 u70 u71 u72 u73 u74 u75 u76 u77 u78 u79 u80 u81 u82 u83 u84 u85 u86 u87 u88 u89 u90 u91 u92 u93 u94 u95 u96 u97 u98 u99 u100 u101 u102 u103 u104 u105 u106 u107 u108 u109 u110 u111 u112 u113 u114 u115 u116 u117 u118 u119 u120 u121 u122 u123 u124 u125 u126 u127 u128 u129 u130 u131 u132 u133 u134 u135 u136 u137 u138 u139 u140 u141 u142 u143 u144 u145 u146 u147 u148 u149 u150 u151 u152 u153 u154 u155 u156 u157 u158 u159 u160 u161 u162 u163 u164 u165 u166 u167 u168 u169 u170 u171 u172 u173 u174 u175 u176 u177 u178 u179 u180 u181 u182 u183 u184 u185 u186 u187 u188 u189 u190 u191 u192 u193 u194 u195 u196 u197 u198 u199 u200 : Value) :
    pTail19.wp Tryz.prog (bodyPostM Fence.wide 5 Tryz.prog Tryz.f32 (ParsePost g (.slice A n c) xs w)) { tmps := (Value.pointer (some ⟨g, 0, none⟩) :: undef :: Value.pointer (some ⟨w.heap.size, 0, none⟩) :: Value.int .i64 (pe : Int) :: Value.int .i64 ((pe : Int) + 24) :: Value.int .i64 (many : Int) :: Value.int .i64 (size : Int) :: Value.int .i64 (magic : Int) :: Value.int .i64 (dirs : Int) :: Value.int .i64 (kd : Int) :: Value.int .i64 (hdrs : Int) :: Value.int .i64 ((pe : Int) + 24 + (size : Int)) :: Value.slice A1 m1 c1 :: Value.int .i64 (en : Int) :: Value.int .i64 (fr : Int) :: Value.int .i64 (ln : Int) :: u16 :: u17 :: u18 :: u19 :: u20 :: u21 :: u22 :: u23 :: u24 :: u25 :: u26 :: u27 :: u28 :: u29 :: u30 :: u31 :: u32 :: u33 :: u34 :: u35 :: u36 :: u37 :: u38 :: u39 :: u40 :: u41 :: u42 :: u43 :: u44 :: u45 :: u46 :: u47 :: u48 :: u49 :: u50 :: u51 :: u52 :: u53 :: u54 :: u55 :: u56 :: u57 :: u58 :: u59 :: u60 :: u61 :: u62 :: u63 :: u64 :: u65 :: u66 :: u67 :: u68 :: u69 :: u70 :: u71 :: u72 :: u73 :: u74 :: u75 :: u76 :: u77 :: u78 :: u79 :: u80 :: u81 :: u82 :: u83 :: u84 :: u85 :: u86 :: u87 :: u88 :: u89 :: u90 :: u91 :: u92 :: u93 :: u94 :: u95 :: u96 :: u97 :: u98 :: u99 :: u100 :: u101 :: u102 :: u103 :: u104 :: u105 :: u106 :: u107 :: u108 :: u109 :: u110 :: u111 :: u112 :: u113 :: u114 :: u115 :: u116 :: u117 :: u118 :: u119 :: u120 :: u121 :: u122 :: u123 :: u124 :: u125 :: u126 :: u127 :: u128 :: u129 :: u130 :: u131 :: u132 :: u133 :: u134 :: u135 :: u136 :: u137 :: u138 :: u139 :: u140 :: u141 :: u142 :: u143 :: u144 :: u145 :: u146 :: u147 :: u148 :: u149 :: u150 :: u151 :: u152 :: u153 :: u154 :: u155 :: u156 :: u157 :: u158 :: u159 :: u160 :: u161 :: u162 :: u163 :: u164 :: u165 :: u166 :: u167 :: u168 :: u169 :: u170 :: u171 :: u172 :: u173 :: u174 :: u175 :: u176 :: u177 :: u178 :: u179 :: u180 :: u181 :: u182 :: u183 :: u184 :: u185 :: u186 :: u187 :: u188 :: u189 :: u190 :: u191 :: u192 :: u193 :: u194 :: u195 :: u196 :: u197 :: u198 :: u199 :: u200 :: []).toArray, defers := [] } w16 := by
  have hgl := hgl0
  have hl := k.len
  have hpel := k.pel
  have hdb := k.dirsl
  have hhdrsl := k.hdrsl
  have hend := k.enl
  have hfrl := k.frl
  have hlnl := k.lnl
  have H := Lib.hid (And.intro hr trivial)
  have H1 := Lib.hid (And.intro trivial k.pe_)
  have H7 := Lib.hid (And.intro trivial k.plus_)
  have HD := Lib.hid (And.intro trivial k.dirs_)
  have HTH := Lib.hid (And.intro trivial k.head_)
  have HS := Lib.hid (And.intro trivial (And.intro k.hdrs_ trivial))
  have H14 := Lib.hid (And.intro trivial (And.intro k.secs_ (And.intro k.end_ k.laid_)))
  have HG := Lib.hid (And.intro trivial (And.intro trivial (And.intro k.from_ k.length_)))
  obtain ⟨ba, hba⟩ : ∃ b, b = false := ⟨_, rfl⟩
  have HB := Lib.hid (And.intro (hbare.trans hba.symm) (And.intro hfrx hlnx))
  have HT := Lib.hid (And.intro trivial hft)
  clear hbare hfrx hlnx hft k hr
  generalize hQ : bodyPostM Fence.wide 5 Tryz.prog Tryz.f32 (ParsePost g (.slice A n c) xs w) = Q
  unfold pTail19 codeOf
  simp only [Tryz.f32, tailOf, Option.getD_some]
  subst hQ
  have hwf : IntKind.u32.wrap (fr : Int) = (fr : Int) := by simp only [IntKind.wrap, IntKind.bits, IntKind.signed]; simp; omega
  have hwl : IntKind.u32.wrap (ln : Int) = (ln : Int) := by simp only [IntKind.wrap, IntKind.bits, IntKind.signed]; simp; omega
  have k5 : w16.cell? ⟨w.heap.size, 5, none⟩ = some (.int .u32 0) := hcut.pa.im.cell 5
  have k6 : w16.cell? ⟨w.heap.size, 6, none⟩ = some (.int .u32 0) := hcut.pa.im.cell 6
  have l5 := hcut.pa.im.frozen 5
  have l6 := hcut.pa.im.frozen 6
  have h17 := (hcut.put (D := {IV.zero with plus := plus, check := pe + 88, dir := dirs + 32, headers := hdrs, secs := .slice A1 m1 c1, table := fr}) 5 (.int .u32 (fr : Int)) (by simp [IV.cells, IV.zero]) rfl).put (D := {IV.zero with plus := plus, check := pe + 88, dir := dirs + 32, headers := hdrs, secs := .slice A1 m1 c1, table := fr, length := ln}) 6 (.int .u32 (ln : Int)) (by simp [IV.cells, IV.zero]) rfl
  clear hcut
  obtain ⟨w17, hw17⟩ : ∃ w17, w17 = (w16.setCell ⟨w.heap.size, 5, none⟩ (.int .u32 (fr : Int))).setCell ⟨w.heap.size, 6, none⟩ (.int .u32 (ln : Int)) := ⟨_, rfl⟩
  rw [← hw17] at h17
  have H17 := Lib.hid h17
  clear h17
  refine wp_seq_k fun K hK => ?_
  go_cut [] from 17 (fun wx => wx = w17)
  case first =>
    go_wp2_with fail
    go_meet
    exact hw17.symm
  subst hcut
  clear hw17 k5 k6 l5 l6
  obtain ⟨w17, hw17⟩ : ∃ w17, w17 = wc := ⟨_, rfl⟩
  subst hw17
  go_wp2_with fail
  refine (rows_any g (fr : Int) w17).mono ?_
  rintro e w18 ⟨rfl, hb18, hz18, hPn, hBn⟩
  have h18 := H17.out.below hb18
  have hIl : w.heap.size < w17.heap.size := H17.out.pa.im.lt
  have hhi := H17.out.hi_
  have hRW : RW g w17.heap.size (w17.heap.size + 1) (.slice A n c) ft fr w18 := ⟨h18.pa.rd, hPn, hBn, by omega, by omega⟩
  have hSI : SI w g w.heap.size hi w18.heap.size {IV.zero with plus := plus, check := pe + 88, dir := dirs + 32, headers := hdrs, secs := .slice A1 m1 c1, table := fr, length := ln} m1 ((Pe.secs xs).flatMap secC) [] w18 := ⟨⟨.slice none 0 0, h18.pa.im, Sgs.nil_ _ _⟩, h18.secs, h18.pa.grown, Nat.le_refl _⟩
  have H18 := Lib.hid (And.intro hRW hSI)
  have hz18' : w17.heap.size + 2 ≤ w18.heap.size := by omega
  clear hb18 h18 hRW hSI hPn hBn hz18
  go_wp2_with fail
  refine (wpIn_wide (n := 5)).1 ?_
  refine range_rows (by omega) g w17.heap.size (w17.heap.size + 1) rfl rfl g w A n c xs H.out.1 hn (Nat.le_refl _) ft fr H18.out.1 (by omega)
    (SI w g w.heap.size hi w18.heap.size {IV.zero with plus := plus, check := pe + 88, dir := dirs + 32, headers := hdrs, secs := .slice A1 m1 c1, table := fr, length := ln} m1 ((Pe.secs xs).flatMap secC))
    (SI.own hgl (Nat.le_refl _) (by omega) (by omega) (by omega)) (fun pre X h => ?hIb) H18.out.2
    (fun v a' => a' = { tmps := ((.pointer (some ⟨g, 0, none⟩) : Value) :: undef :: (.pointer (some ⟨w.heap.size, 0, none⟩) : Value) :: (.int .i64 (pe : Int) : Value) :: (.int .i64 ((pe : Int) + 24) : Value) :: (.int .i64 (many : Int) : Value) :: (.int .i64 (size : Int) : Value) :: (.int .i64 (magic : Int) : Value) :: (.int .i64 (dirs : Int) : Value) :: (.int .i64 (kd : Int) : Value) :: (.int .i64 (hdrs : Int) : Value) :: (.int .i64 ((pe : Int) + 24 + (size : Int)) : Value) :: (.slice A1 m1 c1 : Value) :: (.int .i64 (en : Int) : Value) :: (.int .i64 (fr : Int) : Value) :: (.int .i64 (ln : Int) : Value) :: v :: u17 :: u18 :: u19 :: u20 :: u21 :: u22 :: u23 :: u24 :: u25 :: u26 :: u27 :: u28 :: u29 :: u30 :: u31 :: u32 :: u33 :: u34 :: u35 :: u36 :: u37 :: u38 :: u39 :: u40 :: u41 :: u42 :: u43 :: u44 :: u45 :: u46 :: u47 :: u48 :: u49 :: u50 :: u51 :: u52 :: u53 :: u54 :: u55 :: u56 :: u57 :: u58 :: u59 :: u60 :: u61 :: u62 :: u63 :: u64 :: u65 :: u66 :: u67 :: u68 :: u69 :: u70 :: u71 :: u72 :: u73 :: u74 :: u75 :: u76 :: u77 :: u78 :: u79 :: u80 :: u81 :: u82 :: u83 :: u84 :: u85 :: u86 :: u87 :: u88 :: u89 :: u90 :: u91 :: u92 :: u93 :: u94 :: u95 :: u96 :: u97 :: u98 :: u99 :: u100 :: u101 :: u102 :: u103 :: u104 :: u105 :: u106 :: u107 :: u108 :: u109 :: u110 :: u111 :: u112 :: u113 :: u114 :: u115 :: u116 :: u117 :: u118 :: u119 :: u120 :: u121 :: u122 :: u123 :: u124 :: u125 :: u126 :: u127 :: u128 :: u129 :: u130 :: u131 :: u132 :: u133 :: u134 :: u135 :: u136 :: u137 :: u138 :: u139 :: u140 :: u141 :: u142 :: u143 :: u144 :: u145 :: u146 :: u147 :: u148 :: u149 :: u150 :: u151 :: u152 :: u153 :: u154 :: u155 :: u156 :: u157 :: u158 :: u159 :: u160 :: u161 :: u162 :: u163 :: u164 :: u165 :: u166 :: u167 :: u168 :: u169 :: u170 :: u171 :: u172 :: u173 :: u174 :: u175 :: u176 :: u177 :: u178 :: u179 :: u180 :: u181 :: u182 :: u183 :: u184 :: u185 :: u186 :: u187 :: u188 :: u189 :: (.pointer (some ⟨g, 0, none⟩) : Value) :: (.int .i64 (fr : Int) : Value) :: (.func (.func 73) #[] #[.pointer (some ⟨w17.heap.size, 0, none⟩), .pointer (some ⟨w17.heap.size + 1, 0, none⟩)] : Value) :: v :: u194 :: u195 :: u196 :: u197 :: u198 :: u199 :: u200 :: []).toArray, defers := [] }) ?assign ?body ?done
  case hIb => exact ⟨h.grown.os, h.grown.tape, h.grown.output, h.grown.size, fun k hk => h.grown.block k (by omega) (fun e => by injection e with e; omega)⟩
  case assign =>
    intro l v W K hK
    have HK := Lib.hid hK
    clear hK
    gi_wp2
    exact HK.out _ rfl
  case body =>
    rintro l pre v zs a' X W hlN hX hlen hsz hk hkl hW hown rfl
    obtain ⟨Av, nv, cv, rfl, _⟩ := hown.rd
    obtain ⟨⟨vX, him, hsg⟩, hsec, hgr, hNs⟩ := hX
    have hkc : ∀ (k : Nat) (cur : Array Value) (e : TypeId) (fr : Nat × Nat), k < X.heap.size → X.heap[k]? = some (.cells cur e fr) → W.heap[k]? = X.heap[k]? := fun k cur e fr h1 h2 => hk k h1 (fun e' => by obtain ⟨r, hr⟩ := hkl k h1 e'; rw [h2] at hr; cases hr)
    have hIX := him.lt
    have himW : Bi W w.heap.size {IV.zero with plus := plus, check := pe + 88, dir := dirs + 32, headers := hdrs, secs := .slice A1 m1 c1, table := fr, length := ln, sigs := vX} := (hkc _ _ _ _ hIX him).trans him
    have hsgW := hsg.keep hsz fun k cur e fr _ h2 => hkc k cur e fr (Array.getElem?_eq_some_iff.1 h2).1 h2
    have hgW := hW.grown
    have hNW := hW.size
    have k7 : W.cell? ⟨w.heap.size, 7, none⟩ = some vX := himW.cell 7
    have l7 := himW.frozen 7
    have hIW := himW.lt
    obtain ⟨i0, hi, hz0, hz1, hz2⟩ := info_parts bs_info2
    have hnew : ∀ j u, ([.slice Av nv cv] : List Value)[j]? = some u → (W.alloc (.cells #[.slice Av nv cv] 22)).cell? ((⟨W.heap.size, 0, none⟩ : Addr).add j) = some u := fun j u hj => by
      rw [Addr.add_lit, Nat.zero_add, (Blk.new W 22 #[.slice Av nv cv]).cell j]
      simpa using hj
    have ne_of : ∀ {j : Nat} {o : Obj}, W.heap[j]? = some o → (∀ cur, o ≠ .cells cur 22 (0, 0)) → some j ≠ vX.ownBlock := fun hj hno => by
      rcases ownsRow_ne hsgW.row.1 hj hno with e | e
      · rw [e]; simp
      · exact fun e' => e e'.symm
    have HX := Lib.hid (And.intro hkc (And.intro hsg (And.intro hsec (And.intro hNs (And.intro hgW hown)))))
    have hgPB : g < w.heap.size := hgl
    clear hk hkl hkc hsg hsec hgr hNs hgW hown hW him
    gi_wp2_with (first
      | (gi_at_builtin; refine wpListIn_append_own _ rfl _ _ 28 rfl w18.heap.size 22 i0 (.slice none 0 0) 1 24 Tryz.underlying28 hi hz0 hz1 hz2 rfl (by decide) _ _ _ rfl (hsgW.row.1.alloc _) ⟨W.heap.size, 0, none⟩ 1 1 [.slice Av nv cv] rfl rfl hnew (by simp [Value.oneCell']) (by simp only [maxLen]; omega) (by omega) (by simp; omega) ?_; intro v' w3 hown' hg3 hnil3
         have him3 : Bi w3 w.heap.size {IV.zero with plus := plus, check := pe + 88, dir := dirs + 32, headers := hdrs, secs := .slice A1 m1 c1, table := fr, length := ln, sigs := vX} := (hg3.block _ (by simp; omega) (ne_of himW (fun cur e => by injection e with e1 e2; exact absurd e2 (by decide)))).trans ((Below.heap_alloc _ _ _ hIW).trans himW)
         have k73 : w3.cell? ⟨w.heap.size, 7, none⟩ = some vX := him3.cell 7
         have l73 := him3.frozen 7
         obtain ⟨g', cap', cur', rfl, hbase', hgb', hr1, hr2, hr3, hr4⟩ : ∃ g' cap' cur', v' = .slice (some ⟨g', 0, none⟩) (pre.length + 1) cap' ∧ w18.heap.size ≤ g' ∧ w3.heap[g']? = some (.cells cur' 22 (0, 0)) ∧ pre.length + 1 ≤ cap' ∧ cap' ≤ maxLen ∧ cur'.size = cap' * 1 ∧ cur'.toList.take ((pre.length + 1) * 1) = pre.map (·.1) ++ [.slice Av nv cv] := by
           rcases hown'.2 with ⟨_, h0⟩ | h'
           · exact absurd h0 (by omega)
           · exact h'
         go_frame)
      | (rw [Oper.semAt_eq _ _ _ (fun c h => by cases h)]; go_simp; try go_bits))
    have hg3' : (W.alloc (.cells #[.slice Av nv cv] 22)).grownBy w3 vX.ownBlock := hg3
    have hob : ∀ k, vX.ownBlock = some k → w18.heap.size ≤ k ∧ k < W.heap.size := fun k e => hsgW.row.1.lt k e
    obtain ⟨w4, hw4⟩ : ∃ w4, w3.setCell ⟨w.heap.size, 7, none⟩ (.slice (some ⟨g', 0, none⟩) (pre.length + 1) cap') = w4 := ⟨_, rfl⟩
    rw [hw4]
    have hg4 : w3.grownBy w4 (some w.heap.size) := by rw [← hw4]; exact grownBy_set w3 ⟨w.heap.size, 7, none⟩ _
    have him4 : Bi w4 w.heap.size {IV.zero with plus := plus, check := pe + 88, dir := dirs + 32, headers := hdrs, secs := .slice A1 m1 c1, table := fr, length := ln, sigs := (.slice (some ⟨g', 0, none⟩) (pre.length + 1) cap')} := by rw [← hw4]; exact him3.set_ 7 _
    have hkeep : ∀ k, k < W.heap.size → k ≠ w.heap.size → some k ≠ vX.ownBlock → w4.heap[k]? = W.heap[k]? := fun k h1 h2 h3 =>
      (hg4.block k (by have := hg3'.size; simp at this; omega) (fun e => h2 (by injection e with e))).trans ((hg3'.block k (by simp; omega) h3).trans (Below.heap_alloc _ _ _ h1))
    have hsz4 : W.heap.size ≤ w4.heap.size := by have h1 := hg3'.size; have h2 := hg4.size; simp at h1; omega
    have hrow4 := hown'.kept hg4 (ownsRow_ne hown' him3 (fun cur e => by injection e with e1 e2; exact absurd e2 (by decide)))
    clear hw4
    refine ⟨?_, fun k hkk => ?_, ⟨⟨_, him4, ?_⟩, ?_, ?_, Nat.le_trans hNW hsz4⟩⟩
    · refine (((KeepsOthers.alloc W (.cells #[.slice Av nv cv] 22)).trans (KeepsOthers.of_grownBy hg3' fun j o e ho => ?_)).trans (KeepsOthers.of_grownBy hg4 fun j o e ho => ?_)).from _
      · rcases hsgW.row.1.2 with ⟨e1, _⟩ | ⟨gg, cap, cur, e1, _, hgg, _⟩
        · rw [e1] at e; simp [Value.ownBlock] at e
        · rw [e1] at e
          simp [Value.ownBlock] at e
          subst e
          rw [Below.heap_alloc _ _ _ (Array.getElem?_eq_some_iff.1 hgg).1, hgg] at ho
          injection ho with ho
          subst ho; rfl
      · injection e with e
        subst e
        have him3' := him3
        unfold Bi Blk at him3'
        rw [him3'] at ho
        injection ho with ho
        subst ho; rfl
    · refine hkeep k (by rcases hkk with h | h | h <;> omega) (by rcases hkk with h | h | h <;> omega) (fun e => ?_)
      have := hob k e.symm
      rcases hkk with h | h | h <;> omega
    · refine HX.out.2.1.append HX.out.2.2.2.1 hsz HX.out.1 HX.out.2.2.2.2.2 hsz4 (fun k cur fr h1 h2 => hkeep k h1 (fun e => ?_) (ne_of h2 (fun cur' e => by injection e with e1 e2; exact absurd e2 (by decide)))) ⟨hrow4, fun k e => (hrow4.lt k e).2⟩
      subst e
      have himW' := himW
      unfold Bi Blk at himW'
      rw [himW'] at h2
      injection h2 with h2
      injection h2 with h3 h4
      exact absurd h4 (by decide)
    · refine HX.out.2.2.1.keepCells fun k cur fr h1 h2 h3 => ?_
      have hkX := (Array.getElem?_eq_some_iff.1 h3).1
      have hWk := HX.out.1 k cur _ fr hkX h3
      have h3W := hWk.trans h3
      refine (hkeep k (by omega) (fun e => ?_) (ne_of h3W (fun cur' e => by injection e with e1 e2; exact absurd e2 (by decide)))).trans hWk
      subst e
      have himW' := himW
      unfold Bi Blk at himW'
      rw [himW'] at h3W
      injection h3W with h3W
      injection h3W with h5 h6
      exact absurd h6 (by decide)
    · have hgW := HX.out.2.2.2.2.1
      refine ⟨hg4.os.trans (hg3'.os.trans hgW.os), hg4.tape.trans (hg3'.tape.trans hgW.tape), hg4.output.trans (hg3'.output.trans hgW.output), Nat.le_trans hgW.size hsz4, fun k h1 h2 => (hkeep k (by omega) (by omega) (fun e => ?_)).trans (hgW.block k h1 h2)⟩
      have := hob k e.symm
      omega
  case done =>
    rintro D pre a1 W hD hS hRW hL hKD
    obtain ⟨⟨vS, him, hsg⟩, hsec, hgr, hNs⟩ := hS
    have hvS := hsg.one
    have HD2 := Lib.hid (And.intro hL (And.intro him (And.intro hsg (And.intro hsec (And.intro hgr (And.intro hKD (And.intro hRW hvS)))))))
    clear hL him hsg hsec hgr hKD hRW hvS
    go_wp2_with (first
      | ((with_reducible refine at_load_img ?_); refine wpList_load_img rfl _ rfl w.heap.size _ rfl HD2.out.2.1 ?_)
      | ((with_reducible refine at_store_img ?_); refine wpList_store_img rfl _ _ rfl w.heap.size _ {IV.zero with plus := plus, check := pe + 88, dir := dirs + 32, headers := hdrs, secs := .slice A1 m1 c1, table := fr, length := ln, sigs := vS} rfl rfl HD2.out.2.1 ⟨⟨_, _, _, rfl⟩, HD2.out.2.2.2.2.2.2.2⟩ ?_; intro wz hBz hgz)
      | fail)
    have hIz := hBz.lt
    have hDz : wz.heap[D]? = some (.deferred (some [])) := (hgz.block D (Array.getElem?_eq_some_iff.1 HD2.out.2.2.2.2.2.1).1 (fun e => by injection e with e; omega)).trans HD2.out.2.2.2.2.2.1
    have hgP := grownBy_putObj wz D (.deferred none)
    have hbz2 : Bi (wz.putObj D (.deferred none)) w.heap.size { IV.zero with plus := plus, check := pe + 88, dir := dirs + 32, headers := hdrs, secs := .slice A1 m1 c1, table := fr, length := ln, sigs := vS } := (putObj_other2 (by omega)).trans hBz
    have hrw := HD2.out.2.2.2.2.2.2.1
    have hfl : (ft && (Pe.rows xs fr).isSome) = Pe.fine xs := by
      rw [← HT.out.2, ← H14.out.2.2.2]
      unfold Pe.fine Pe.signed
      rw [HTH.out.2, HB.out.1, hba, HB.out.2.1, Bool.true_and, Bool.false_or, Bool.and_assoc]
    rw [hfl] at hrw
    have hkz : ∀ (k : Nat) (cur : Array Value) (e : TypeId) (fr : Nat × Nat), k ≠ w.heap.size → W.heap[k]? = some (.cells cur e fr) → (wz.putObj D (.deferred none)).heap[k]? = W.heap[k]? := fun k cur e fr h1 h2 => by
      have hkD : k ≠ D := fun e' => by subst e'; rw [HD2.out.2.2.2.2.2.1] at h2; cases h2
      exact (putObj_other2 hkD).trans (hgz.block k (Array.getElem?_eq_some_iff.1 h2).1 (fun e => h1 (by injection e)))
    have hszz : W.heap.size ≤ (wz.putObj D (.deferred none)).heap.size := by have := hgz.size; simpa using this
    refine ⟨by simp, .inl ⟨_, _, rfl, run_takeDeferred hDz, ?_⟩⟩
    refine ⟨_, results_cell1 Tryz.results32 _ _ _ _ _ rfl (load_img hbz2), _, rfl, ⟨?_, ?_⟩, ⟨⟨_, _, _, rfl⟩, HD2.out.2.2.2.2.2.2.2⟩, fun hf => ⟨?_, ?_, pre, ?_, ?_⟩⟩
    · exact (hkz g _ _ _ (by omega) hrw.rd).trans hrw.rd
    · refine grown_on (grown_on HD2.out.2.2.2.2.1 hgz (fun j e => .inl (by injection e with e; omega))) hgP (fun j e => .inl (by injection e with e; omega))
    · have e1 : Pe.opt xs = pe + 24 := by unfold Pe.opt Pe.pe; rw [H1.out.2]
      refine ⟨H7.out.2.symm, ?_, by rw [HD.out.2], HS.out.2.1.symm, ?_, ?_⟩
      · rw [e1]
      · rw [HB.out.1, hba, HB.out.2.1]; rfl
      · rw [HB.out.1, hba, HB.out.2.2]; rfl
    · rw [H14.out.2.1]
      exact (HD2.out.2.2.2.1.keepCells fun k cur fr h1 h2 h3 => hkz k cur _ fr (fun e => by
        subst e
        have him := HD2.out.2.1
        unfold Bi Blk at him
        rw [him] at h3
        injection h3 with h3
        injection h3 with h5 h6
        exact absurd h6 (by decide)) h3).mono (Nat.le_refl _) (by omega)
    · exact (HD2.out.2.2.1.keep hszz fun k cur e fr h1 h2 => hkz k cur e fr (by omega) h2).lower (by omega)
    · have hfi : (ft && (Pe.rows xs fr).isSome) = true := hfl.trans hf
      rw [Bool.and_eq_true] at hfi
      obtain ⟨L, hLs⟩ := Option.isSome_iff_exists.1 hfi.2
      rw [HD2.out.1 L hfi.1 hLs]
      unfold Pe.sigs
      rw [HB.out.1, hba, HB.out.2.1, hLs]
      rfl
end Go.Proofs.YtmpladnglfiejaaGreatDoor

