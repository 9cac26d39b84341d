/- Parse: the sections. -/
import Derived.Test.YtmpladnglfiejaaGreatDoorPePT17
import Derived.Test.YtmpladnglfiejaaGreatDoorPK
namespace Go.Proofs.YtmpladnglfiejaaGreatDoor
open Go.RowKit Go.Shelf
attribute [local go_sem] Oper.semAt_some
set_option maxRecDepth 100000
set_option linter.unusedVariables false
set_option linter.unusedSimpArgs false

noncomputable def pTail12 : Code := tailOf 12 (codeOf Tryz.f32)
set_option maxHeartbeats 4000000 in
theorem parse_tail12 {w : World} {g n c pe many size magic : Nat} {A : Option Addr} {xs : List UInt8} {fs : Bool} {dirs kd hdrs : Nat} {hd plus : Bool} (k : KA xs n pe many size magic fs) (hr : Rd w g A n c xs) (hn : n ≤ 16777216) (hgl0 : g < w.heap.size) (hplus : Pe.plus xs = plus) (hdx : Pe.dirs xs = dirs) (hdb : pe + 120 ≤ dirs ∧ dirs ≤ pe + 136) (hhdrs : Pe.at_ xs (pe + 84) 4 = hdrs) (hhdrsl : hdrs < 4294967296) (hth : Pe.head xs = hd)
    (w11 : World) (hcut : PA w g w.heap.size (.slice A n c) hd {IV.zero with plus := plus, check := pe + 88, dir := dirs + 32} w11) (u12 u13 u14 u15 u16 u17 u18 u19 u20 u21 u22 u23 u24 u25 u26 u27 u28 u29 u30 u31 u32 u33 u34 u35 u36 u37 u38 u39 u40 u41 u42 u43 u44 u45 u46 u47 u48 u49 u50 u51 u52 u53 u54 u55 u56 u57 u58 u59 u60 u61 u62 u63 u64 u65 u66 u67 u68 u69 u70 u71 u72 u73 u74 u75 u76 u77 u78 u79 u80 u81 u82 u83 u84 u85 u86 u87 u88 u89 u90 u91 u92 u93 u94 u95 u96 u97 u98 u99 u100 u101 u102 u103 u104 u105 u106 u107 u108 u109 u110 u111 u112 u113 u114 u115 u116 u117 u118 u119 u120 u121 u122 u123 u124 u125 u126 u127 u128 u129 u130 u131 u132 u133 u134 u135 u136 u137 u138 u139 u140 u141 u142 u143 u144 u145 u146 u147 u148 u149 u150 u151 u152 u153 u154 u155 u156 u157 u158 u159 u160 u161 u162 u163 u164 u165 u166 u167 u168 u169 u170 u171 u172 u173 u174 u175 u176 u177 u178 u179 u180 u181 u182 u183 u184 u185 u186 u187 u188 u189 u190 u191 u192 u193 u194 u195 u196 u197 u198 u199 u200 : Value) :
    pTail12.wp Tryz.prog (bodyPostM Fence.wide 5 Tryz.prog Tryz.f32 (ParsePost g (.slice A n c) xs w)) { tmps := (Value.pointer (some ⟨g, 0, none⟩) :: undef :: Value.pointer (some ⟨w.heap.size, 0, none⟩) :: Value.int .i64 (pe : Int) :: Value.int .i64 ((pe : Int) + 24) :: Value.int .i64 (many : Int) :: Value.int .i64 (size : Int) :: Value.int .i64 (magic : Int) :: Value.int .i64 (dirs : Int) :: Value.int .i64 (kd : Int) :: Value.int .i64 (hdrs : Int) :: Value.int .i64 ((pe : Int) + 24 + (size : Int)) :: u12 :: u13 :: u14 :: u15 :: u16 :: u17 :: u18 :: u19 :: u20 :: u21 :: u22 :: u23 :: u24 :: u25 :: u26 :: u27 :: u28 :: u29 :: u30 :: u31 :: u32 :: u33 :: u34 :: u35 :: u36 :: u37 :: u38 :: u39 :: u40 :: u41 :: u42 :: u43 :: u44 :: u45 :: u46 :: u47 :: u48 :: u49 :: u50 :: u51 :: u52 :: u53 :: u54 :: u55 :: u56 :: u57 :: u58 :: u59 :: u60 :: u61 :: u62 :: u63 :: u64 :: u65 :: u66 :: u67 :: u68 :: u69 :: u70 :: u71 :: u72 :: u73 :: u74 :: u75 :: u76 :: u77 :: u78 :: u79 :: u80 :: u81 :: u82 :: u83 :: u84 :: u85 :: u86 :: u87 :: u88 :: u89 :: u90 :: u91 :: u92 :: u93 :: u94 :: u95 :: u96 :: u97 :: u98 :: u99 :: u100 :: u101 :: u102 :: u103 :: u104 :: u105 :: u106 :: u107 :: u108 :: u109 :: u110 :: u111 :: u112 :: u113 :: u114 :: u115 :: u116 :: u117 :: u118 :: u119 :: u120 :: u121 :: u122 :: u123 :: u124 :: u125 :: u126 :: u127 :: u128 :: u129 :: u130 :: u131 :: u132 :: u133 :: u134 :: u135 :: u136 :: u137 :: u138 :: u139 :: u140 :: u141 :: u142 :: u143 :: u144 :: u145 :: u146 :: u147 :: u148 :: u149 :: u150 :: u151 :: u152 :: u153 :: u154 :: u155 :: u156 :: u157 :: u158 :: u159 :: u160 :: u161 :: u162 :: u163 :: u164 :: u165 :: u166 :: u167 :: u168 :: u169 :: u170 :: u171 :: u172 :: u173 :: u174 :: u175 :: u176 :: u177 :: u178 :: u179 :: u180 :: u181 :: u182 :: u183 :: u184 :: u185 :: u186 :: u187 :: u188 :: u189 :: u190 :: u191 :: u192 :: u193 :: u194 :: u195 :: u196 :: u197 :: u198 :: u199 :: u200 :: []).toArray, defers := [] } w11 := by
  have hgl := hgl0
  have hl := k.len
  have hpel := k.pel
  have hmanyl := k.manyl
  have hsizel := k.sizel
  have hmagicl := k.magicl
  have H := Lib.hid (And.intro hr trivial)
  have H1 := Lib.hid (And.intro trivial k.pe_)
  have H5 := Lib.hid (And.intro trivial (And.intro k.many_ (And.intro k.size_ k.magic_)))
  have HFS := Lib.hid (And.intro trivial k.fs_)
  have H7 := Lib.hid (And.intro trivial hplus)
  have HD := Lib.hid (And.intro trivial hdx)
  have H10 := Lib.hid (And.intro trivial (And.intro trivial hhdrs))
  have HTH := Lib.hid (And.intro trivial hth)
  have HK := Lib.hid (And.intro k hr)
  have H11 := Lib.hid hcut
  have q11 : w11.cell? ⟨g, 1, none⟩ = some (.bool hd) := (hcut.rd.facts).1 1
  clear hcut k hr hplus hdx hhdrs hth
  generalize hQ : bodyPostM Fence.wide 5 Tryz.prog Tryz.f32 (ParsePost g (.slice A n c) xs w) = Q
  unfold pTail12 codeOf
  simp only [Tryz.f32, tailOf, Option.getD_some]
  subst hQ
  cases hd
  · go_wp2_with (first
      | ((with_reducible refine at_load_img ?_); refine wpList_load_img rfl _ rfl w.heap.size _ rfl H11.out.im ?_)
      | ((with_reducible refine at_store_img ?_); refine wpList_store_img rfl _ _ rfl w.heap.size _ {IV.zero with plus := plus, check := pe + 88, dir := dirs + 32} rfl rfl H11.out.im IV.zero_one ?_; intro wz hBz hgz)
      | fail)
    have e : Pe.fine xs = false := by unfold Pe.fine; rw [HTH.out.2]; rfl
    refine ⟨_, results_cell1 Tryz.results32 _ _ _ _ _ rfl (load_img hBz), _, rfl, ?_, IV.zero_one, fun hf => by rw [e] at hf; cases hf⟩
    have h := H11.out.store hBz hgz
    rw [e]
    exact ⟨h.rd, h.grown⟩
  · have hhp := Pe.head_parts HTH.out.2
    have hm96 : Pe.many xs ≤ 96 := by
      have hh := HTH.out.2
      unfold Pe.head Pe.second at hh
      simp only [Bool.and_eq_true, decide_eq_true_eq] at hh
      exact hh.1.2.2.1.2
    have hs := fun (W : World) hb hr => sections_any g A n c xs true W hb hr hn (by omega) (by omega) hm96
    have htab : ((Pe.table xs : Nat) : Int) = (pe : Int) + 24 + size := by
      have : Pe.table xs = pe + 24 + size := by unfold Pe.table Pe.opt Pe.size Pe.pe; rw [H1.out.2, H5.out.2.2.1]
      omega
    have hmny : Pe.many xs = many := by unfold Pe.many Pe.pe; rw [H1.out.2]; exact H5.out.2.1
    have hhdr : Pe.headers xs = hdrs := by unfold Pe.headers Pe.opt Pe.pe; rw [H1.out.2]; exact H10.out.2.2
    rw [htab, hmny, hhdr] at hs
    rw [hmny] at hm96
    have hdl : dirs + 40 ≤ n := by rw [HD.out.2, hhdr] at hhp; omega
    have hwh : IntKind.u32.wrap (hdrs : Int) = (hdrs : Int) := by simp only [IntKind.wrap, IntKind.bits, IntKind.signed]; simp; omega
    have k3 : w11.cell? ⟨w.heap.size, 3, none⟩ = some (.int .u32 0) := H11.out.im.cell 3
    have l3 := H11.out.im.frozen 3
    have h12 := H11.out.put (D := {IV.zero with plus := plus, check := pe + 88, dir := dirs + 32, headers := hdrs}) 3 (.int .u32 (hdrs : Int)) (by simp [IV.cells, IV.zero])
    obtain ⟨w12, hw12⟩ : ∃ w12, w12 = w11.setCell ⟨w.heap.size, 3, none⟩ (.int .u32 (hdrs : Int)) := ⟨_, rfl⟩
    rw [← hw12] at h12
    have HS := Lib.hid (And.intro hs (And.intro hhdr h12))
    clear hs htab hmny hhdr h12 hhp
    go_upto_region 16 with fail
    rw [← hw12]
    clear hw12 k3 l3
    go_wp2_with fail
    refine (HS.out.1 w12 HS.out.2.2.rd (HS.out.2.2.rdd H.out.1)).mono ?_
    rintro e w13 ⟨A1, m1, c1, rfl, ho1, hS1⟩
    have hm1 : (Pe.secs xs).length = m1 := by
      obtain ⟨_, _, e1, hr1⟩ := ho1.rdS
      exact hr1.len
    obtain ⟨en, hen⟩ : ∃ en, Pe.end_ xs = en := ⟨_, rfl⟩
    have hend : en ≤ 1099511627776 := by
      rw [← hen]
      unfold Pe.end_
      rw [HS.out.2.1]
      have h2 := Pe.sizes_le (m := 4294967296) (Pe.secs xs) fun x hx => Nat.le_of_lt (Pe.secs_small xs x hx).2
      have h3 : (Pe.secs xs).length ≤ 96 := by
        have h4 : (Pe.secs xs).length ≤ (List.range (Pe.many xs)).length := List.length_filterMap_le _ _
        rw [List.length_range] at h4
        have h5 : Pe.many xs = many := by unfold Pe.many Pe.pe; rw [H1.out.2]; exact H5.out.2.1
        omega
      have h4 := Nat.le_trans h2 (Nat.mul_le_mul_right 4294967296 h3)
      omega
    obtain ⟨la, hla⟩ : ∃ la, Pe.laid xs = la := ⟨_, rfl⟩
    rw [hen]
    rw [hla, Bool.true_and] at hS1
    have h13 := HS.out.2.2.stp hS1
    have k4 : w13.cell? ⟨w.heap.size, 4, none⟩ = some (.slice none 0 0) := h13.im.cell 4
    have l4 := h13.im.frozen 4
    have h14 := h13.put (D := {IV.zero with plus := plus, check := pe + 88, dir := dirs + 32, headers := hdrs, secs := .slice A1 m1 c1}) 4 (.slice A1 m1 c1) (by simp [IV.cells, IV.zero])
    have hIl := HS.out.2.2.im.lt
    have ho14 := ho1.setCell (p := ⟨w.heap.size, 4, none⟩) (.inl hIl) (.slice A1 m1 c1)
    obtain ⟨w14, hw14⟩ : ∃ w14, w14 = w13.setCell ⟨w.heap.size, 4, none⟩ (.slice A1 m1 c1) := ⟨_, rfl⟩
    have hs14 : w12.heap.size ≤ w14.heap.size ∧ w14.heap.size = w13.heap.size := by rw [hw14]; exact ⟨by simpa using hS1.grown.size, by simp⟩
    rw [← hw14] at h14 ho14
    have hs1g := hS1.grown.size
    have hwl : w.heap.size ≤ w12.heap.size := Nat.le_of_lt hIl
    have h14b : PB w g w.heap.size (.slice A n c) la {IV.zero with plus := plus, check := pe + 88, dir := dirs + 32, headers := hdrs, secs := .slice A1 m1 c1} xs w13.heap.size m1 w14 := ⟨h14, ho14.mono hwl (Nat.le_refl _), by omega⟩
    have H14 := Lib.hid (And.intro h14b (And.intro hm1 (And.intro hen hla)))
    clear h13 h14 ho1 ho14 hm1 hen hla hS1 h14b hs1g hwl
    go_upto_region 18 with fail
    rw [← hw14]
    clear hw14 k4 l4 q11
    have hf := fun W (h : PB w g w.heap.size (.slice A n c) la {IV.zero with plus := plus, check := pe + 88, dir := dirs + 32, headers := hdrs, secs := .slice A1 m1 c1} xs w13.heap.size m1 W) => h.at4 H.out.1 hn (dirs + 32) ((dirs + 32 : Nat) : Int) rfl (by omega)
    have hg := fun W (h : PB w g w.heap.size (.slice A n c) la {IV.zero with plus := plus, check := pe + 88, dir := dirs + 32, headers := hdrs, secs := .slice A1 m1 c1} xs w13.heap.size m1 W) => h.at4 H.out.1 hn (dirs + 36) (((dirs + 32 : Nat) : Int) + 4) (by omega) (by omega)
    rw [show Pe.inb xs (dirs + 32) 4 = true from by unfold Pe.inb; simp; omega, Bool.and_true] at hf
    rw [show Pe.inb xs (dirs + 36) 4 = true from by unfold Pe.inb; simp; omega, Bool.and_true] at hg
    obtain ⟨fr, hfr⟩ : ∃ m, Pe.at_ xs (dirs + 32) 4 = m := ⟨_, rfl⟩
    obtain ⟨ln, hln⟩ : ∃ m, Pe.at_ xs (dirs + 36) 4 = m := ⟨_, rfl⟩
    have hfrl : fr < 4294967296 := by rw [← hfr]; exact Pe.at_lt4 _ _
    have hlnl : ln < 4294967296 := by rw [← hln]; exact Pe.at_lt4 _ _
    rw [hfr] at hf
    rw [hln] at hg
    have HG := Lib.hid (And.intro hf (And.intro hg (And.intro hfr hln)))
    clear hf hg hfr hln
    refine wp_region_facts (FromV g w.heap.size (dirs + 32) fr ln) (fun _ _ => True) (PB w g w.heap.size (.slice A n c) la {IV.zero with plus := plus, check := pe + 88, dir := dirs + 32, headers := hdrs, secs := .slice A1 m1 c1} xs w13.heap.size m1)
      (PR w g w.heap.size (.slice A n c) la {IV.zero with plus := plus, check := pe + 88, dir := dirs + 32, headers := hdrs, secs := .slice A1 m1 c1} xs w13.heap.size m1)
      rfl (fun _ => PR.refl _) (fun _ _ h k => k h) (fun _ _ _ _ _ => trivial) (by show dstsOk _ 201 = true; decide +kernel) (by decide +kernel) (H14.out.1.below (Below.refl _ _).drew) ⟨?_, ?_, ?_, ?_, ?_, ?_, ?_, ?_, ?_, ?_, ?_, trivial⟩ ?_
    · refine RStep.run (by simp) rfl ?_; intro a' W hfr hdep hG; exact F_move rfl (hfr 0 (by decide +kernel)) trivial (PR.refl _)
    · refine RStep.run (by simp) rfl ?_; intro a' W hfr hdep hG; have d := hfr 2 (by decide +kernel); refine F_val ?_ trivial (PR.refl _); simp only [execOp, d]; simp [go_sem, FromV, Act.eval]
    · refine RStep.run (by simp) rfl ?_; intro a' W hfr hdep hG; have d : a'.eval (.tmp 144) = _ := hdep 1 (by decide +kernel); exact F_load rfl d (load_intR (hG.pa.im.cell 2)) trivial (PR.refl _)
    · refine RStep.run (by simp) rfl ?_; intro a' W hfr hdep hG; have d0 : a'.eval (.tmp 143) = _ := hdep 0 (by decide +kernel); have d2 : a'.eval (.tmp 145) = _ := hdep 2 (by decide +kernel); refine F_call rfl Tryz.func51 rfl (by decide) (args := #[.pointer (some ⟨g, 0, none⟩), .int .i64 ((dirs + 32 : Nat) : Int), .int .i64 4]) (by simp only [List.map_toArray, List.map_cons, List.map_nil, d0, d2]; rfl) (HG.out.1 W hG) ?_; rintro e w' ⟨rfl, hs'⟩; exact ⟨rfl, trivial, fun _ => hs'⟩
    · refine RStep.run (by simp) rfl ?_; intro a' W hfr hdep hG; exact F_move rfl (hfr 0 (by decide +kernel)) trivial (PR.refl _)
    · refine RStep.run (by simp) rfl ?_; intro a' W hfr hdep hG; have d := hfr 2 (by decide +kernel); refine F_val ?_ trivial (PR.refl _); simp only [execOp, d]; simp [go_sem, FromV, Act.eval]
    · refine RStep.run (by simp) rfl ?_; intro a' W hfr hdep hG; have d : a'.eval (.tmp 148) = _ := hdep 5 (by decide +kernel); exact F_load rfl d (load_intR (hG.pa.im.cell 2)) trivial (PR.refl _)
    · refine RStep.run (by simp) rfl ?_; intro a' W hfr hdep hG; have d : a'.eval (.tmp 149) = .int .i64 ((dirs + 32 : Nat) : Int) := hdep 6 (by decide +kernel); refine F_val ?_ trivial (PR.refl _); simp only [execOp, d]; simp [go_sem, FromV, Act.eval]; rw [IntKind.wrap_i64]; omega
    · refine RStep.run (by simp) rfl ?_; intro a' W hfr hdep hG; have d0 : a'.eval (.tmp 147) = _ := hdep 4 (by decide +kernel); have d2 : a'.eval (.tmp 150) = _ := hdep 7 (by decide +kernel); refine F_call rfl Tryz.func51 rfl (by decide) (args := #[.pointer (some ⟨g, 0, none⟩), .int .i64 (((dirs + 32 : Nat) : Int) + 4), .int .i64 4]) (by simp only [List.map_toArray, List.map_cons, List.map_nil, d0, d2]; rfl) (HG.out.2.1 W hG) ?_; rintro e w' ⟨rfl, hs'⟩; exact ⟨rfl, trivial, fun _ => hs'⟩
    · refine RStep.run (by simp) rfl ?_; intro a' W hfr hdep hG; have d : a'.eval (.tmp 146) = _ := hdep 3 (by decide +kernel); exact F_assign rfl d trivial (PR.refl _)
    · refine RStep.run (by simp) rfl ?_; intro a' W hfr hdep hG; have d : a'.eval (.tmp 151) = _ := hdep 8 (by decide +kernel); exact F_assign rfl d trivial (PR.refl _)
    intro a' w15 hd hsz hfr hG hsl
    have e := act_of_slots (FromV g w.heap.size (dirs + 32) fr ln) (by show dstsOk _ 201 = true; decide +kernel) hd hsz hfr (fun i hi => (hsl i hi).1)
    have H15 := Lib.hid hG
    clear hd hsz hfr hsl hG
    have hrg : List.range 11 = [0, 1, 2, 3, 4, 5, 6, 7, 8, 9, 10] := rfl
    simp only [layAll, List.map_cons, List.map_nil, List.size_toArray, List.length_cons, List.length_nil, Nat.reduceAdd, hrg, List.zip_cons_cons, List.zip_nil_left, List.foldl_cons, List.foldl_nil, FromV, Act.put, List.setIfInBounds_toArray, List.set_cons_zero, List.set_cons_succ] at e
    subst e
    clear hrg
    apply_assumption
    (repeat (rename_i x; clear x))
    exact parse_tail17 ⟨HK.out.1.len, H1.out.2, H7.out.2, HD.out.2, HTH.out.2, HS.out.2.1, H14.out.2.1, H14.out.2.2.1, H14.out.2.2.2, HG.out.2.2.1, HG.out.2.2.2, hpel, hdb, hhdrsl, hend, hfrl, hlnl⟩ HK.out.2 hn hgl _ H15.out _ _ _ _ _ _ _ _ _ _ _ _ _ _ _ _ _ _ _ _ _ _ _ _ _ _ _ _ _ _ _ _ _ _ _ _ _ _ _ _ _ _ _ _ _ _ _ _ _ _ _ _ _ _ _ _ _ _ _ _ _ _ _ _ _ _ _ _ _ _ _ _ _ _ _ _ _ _ _ _ _ _ _ _ _ _ _ _ _ _ _ _ _ _ _ _ _ _ _ _ _ _ _ _ _ _ _ _ _ _ _ _ _ _ _ _ _ _ _ _ _ _ _ _ _ _ _ _ _ _ _ _ _ _ _ _ _ _ _ _ _ _ _ _ _ _ _ _ _ _ _ _ _ _ _ _ _ _ _ _ _ _ _ _ _ _ _ _ _ _ _ _ _ _ _ _ _ _ _ _ _ _ _ _ _
end Go.Proofs.YtmpladnglfiejaaGreatDoor
