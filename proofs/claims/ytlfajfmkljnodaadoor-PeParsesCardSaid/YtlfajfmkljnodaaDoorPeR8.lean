/- The reference's Parse: the sections. -/
import Derived.Test.YtlfajfmkljnodaaDoorPeR7
namespace Go.Proofs.YtlfajfmkljnodaaDoor
open Go.RowKit
set_option maxRecDepth 100000
set_option linter.unusedVariables false
set_option linter.unusedSimpArgs false
noncomputable def rTail15 : Code := tailOf 15 (codeOf Tryd.f16)
/-- What the reference's Parse knows of right headers. -/
structure RfS (xs : List UInt8) (n T m hd fr ln : Nat) (C : IV) : Prop where
  len : xs.length = n
  n_ : n ≤ 16777216
  head : Pe.head xs = true
  table_ : Pe.table xs = T
  many_ : Pe.many xs = m
  headers_ : Pe.headers xs = hd
  from_ : Pe.from_ xs = fr
  length_ : Pe.length xs = ln
  nums : C.plus = Pe.plus xs ∧ C.check = Pe.opt xs + 64 ∧ C.dir = Pe.dirs xs + 32 ∧ C.headers = Pe.headers xs ∧ C.table = 0 ∧ C.length = 0
  hdl : hd ≤ n
  tl : T + 40 * m ≤ hd
  ml : m ≤ 96
  frl : fr < 4294967296
  lnl : ln < 4294967296
theorem RfS.err {xs : List UInt8} {n T m hd fr ln : Nat} {C : IV} (k : RfS xs n T m hd fr ln C) : (Pe.laid xs = false → Pe.err xs = 9) ∧ (Pe.laid xs = true → (Pe.bare xs = true → Pe.err xs = 0 ∧ Pe.sigs xs = []) ∧ (Pe.bare xs = false → Pe.tabled xs = false → Pe.err xs = 9)) := by
  have hn := k.n_
  have hl := k.len
  refine ⟨fun h => ?_, fun h => ⟨fun hb => ?_, fun hb ht => ?_⟩⟩
  · have hf : Pe.fine xs = false := by unfold Pe.fine; rw [k.head, h]; rfl
    unfold Pe.err; rw [if_neg (by omega), hf]; rfl
  · have hf : Pe.fine xs = true := by unfold Pe.fine Pe.signed; rw [k.head, h, hb]; rfl
    have hs : Pe.sigs xs = [] := by unfold Pe.sigs; rw [hb]; rfl
    refine ⟨?_, hs⟩
    unfold Pe.err; rw [if_neg (by omega), hf, hs]; rfl
  · have hf : Pe.fine xs = false := by unfold Pe.fine Pe.signed; rw [k.head, h, hb, ht]; rfl
    unfold Pe.err; rw [if_neg (by omega), hf]; rfl
theorem Pe.end_le {xs : List UInt8} {m : Nat} (hm : Pe.many xs = m) (h96 : m ≤ 96) (hd : Pe.headers xs ≤ 16777216) : Pe.end_ xs ≤ 1099511627776 := by
  unfold Pe.end_
  have h2 := Pe.sizes_le (m := 4294967296) (Pe.secs xs) fun x hx => Nat.le_of_lt (Pe.secs_small xs x hx).2
  have h3 : (Pe.secs xs).length ≤ 96 := by
    have h4 : (Pe.secs xs).length ≤ (List.range (Pe.many xs)).length := List.length_filterMap_le _ _
    rw [List.length_range] at h4
    omega
  have h4 := Nat.le_trans h2 (Nat.mul_le_mul_right 4294967296 h3)
  omega
set_option maxHeartbeats 4000000 in
theorem ref_tail15 {w : World} {n c zb ib gx cx gy cy T m hd fr ln : Nat} {A : Option Addr} {xs : List UInt8} {C : IV} (k : RfS xs n T m hd fr ln C) (hr : Rd w w.heap.size A n c xs) (hsc : C.secs = .slice none 0 0) (hsg : C.sigs = .slice none 0 0) (w4 : World) (hb4 : Below w.heap.size w w4)
    (hR : Bi w4 w.heap.size IV.zero) (hZ : Bi w4 zb IV.zero) (hI : Bi w4 ib C) (hne : w.heap.size ≠ zb ∧ w.heap.size ≠ ib ∧ zb ≠ ib ∧ w.heap.size ≤ zb ∧ w.heap.size ≤ ib)
    (hgx : w.heap.size ≤ gx ∧ gx < w4.heap.size ∧ gx ≠ ib) (hgy : w.heap.size ≤ gy ∧ gy < w4.heap.size ∧ gy ≠ ib) (p0 : w4.cell? ⟨gx, 0, none⟩ = some (.int .i64 (m : Int))) (p3 : w4.cell? ⟨gx, 3, none⟩ = some (.int .i64 (hd : Int))) (q1 : w4.cell? ⟨gy, 1, none⟩ = some (.int .i64 (fr : Int))) (q2 : w4.cell? ⟨gy, 2, none⟩ = some (.int .i64 (ln : Int)))
    (u1 u3 u5 u6 u7 u10 u13 u14 u15 u16 u17 u18 u19 u20 u21 u22 u23 u24 u25 u26 u27 u28 u29 u30 u31 u32 u33 u34 u35 u36 u37 u38 u39 u40 u41 u42 u43 u44 u45 u46 u47 u48 u49 u50 u51 u52 u53 u54 u55 u56 u57 u58 u59 u60 u61 u62 u63 u64 u65 u66 u67 u68 u69 u70 u71 u72 u73 u74 u75 u76 u77 u78 u79 u80 u81 u82 u83 u84 u85 u86 u87 u88 u89 u90 u91 u92 u93 u94 u95 u96 u97 u98 u99 u100 u101 u102 u103 u104 u105 u106 u107 u108 u109 u110 u111 u112 u113 u114 u115 u116 u117 u118 u119 u120 u121 u122 u123 u124 u125 u126 u127 u128 u129 u130 u131 u132 u133 u134 u135 u136 u137 u138 u139 u140 u141 u142 u143 u144 u145 u146 u147 u148 u149 u150 u151 u152 u153 u154 u155 u156 u157 u158 u159 u160 u161 u162 u163 u164 u165 u166 u167 u168 u169 u170 u171 u172 u173 u174 u175 u176 u177 u178 u179 u180 u181 u182 u183 u184 u185 u186 u187 u188 u189 u190 u191 u192 u193 u194 u195 u196 u197 u198 u199 u200 u201 u202 u203 u204 u205 u206 u207 u208 u209 u210 u211 u212 u213 u214 u215 u216 u217 u218 u219 u220 u221 u222 u223 u224 u225 u226 u227 u228 u229 u230 u231 u232 u233 u234 u235 u236 u237 u238 u239 u240 u241 u242 u243 u244 u245 u246 u247 u248 u249 u250 u251 u252 u253 u254 u255 u256 u257 u258 u259 : Value) :
    rTail15.wp Tryd.prog (bodyPost Tryd.prog Tryd.f16 (RefOut xs w)) { tmps := (Value.slice A n c :: u1 :: Value.pointer (some ⟨w.heap.size, 0, none⟩) :: u3 :: Value.pointer (some ⟨zb, 0, none⟩) :: u5 :: u6 :: u7 :: Value.slice (some ⟨gx, 0, none⟩) 4 cx :: Value.pointer (some ⟨ib, 0, none⟩) :: u10 :: Value.slice (some ⟨gy, 0, none⟩) 3 cy :: Value.int .i64 (T : Int) :: u13 :: u14 :: u15 :: u16 :: u17 :: u18 :: u19 :: u20 :: u21 :: u22 :: u23 :: u24 :: u25 :: u26 :: u27 :: u28 :: u29 :: u30 :: u31 :: u32 :: u33 :: u34 :: u35 :: u36 :: u37 :: u38 :: u39 :: u40 :: u41 :: u42 :: u43 :: u44 :: u45 :: u46 :: u47 :: u48 :: u49 :: u50 :: u51 :: u52 :: u53 :: u54 :: u55 :: u56 :: u57 :: u58 :: u59 :: u60 :: u61 :: u62 :: u63 :: u64 :: u65 :: u66 :: u67 :: u68 :: u69 :: u70 :: u71 :: u72 :: u73 :: u74 :: u75 :: u76 :: u77 :: u78 :: u79 :: u80 :: u81 :: u82 :: u83 :: u84 :: u85 :: u86 :: u87 :: u88 :: u89 :: u90 :: u91 :: u92 :: u93 :: u94 :: u95 :: u96 :: u97 :: u98 :: u99 :: u100 :: u101 :: u102 :: u103 :: u104 :: u105 :: u106 :: u107 :: u108 :: u109 :: u110 :: u111 :: u112 :: u113 :: u114 :: u115 :: u116 :: u117 :: u118 :: u119 :: u120 :: u121 :: u122 :: u123 :: u124 :: u125 :: u126 :: u127 :: u128 :: u129 :: u130 :: u131 :: u132 :: u133 :: u134 :: u135 :: u136 :: u137 :: u138 :: u139 :: u140 :: u141 :: u142 :: u143 :: u144 :: u145 :: u146 :: u147 :: u148 :: u149 :: u150 :: u151 :: u152 :: u153 :: u154 :: u155 :: u156 :: u157 :: u158 :: u159 :: u160 :: u161 :: u162 :: u163 :: u164 :: u165 :: u166 :: u167 :: u168 :: u169 :: u170 :: u171 :: u172 :: u173 :: u174 :: u175 :: u176 :: u177 :: u178 :: u179 :: u180 :: u181 :: u182 :: u183 :: u184 :: u185 :: u186 :: u187 :: u188 :: u189 :: u190 :: u191 :: u192 :: u193 :: u194 :: u195 :: u196 :: u197 :: u198 :: u199 :: u200 :: u201 :: u202 :: u203 :: u204 :: u205 :: u206 :: u207 :: u208 :: u209 :: u210 :: u211 :: u212 :: u213 :: u214 :: u215 :: u216 :: u217 :: u218 :: u219 :: u220 :: u221 :: u222 :: u223 :: u224 :: u225 :: u226 :: u227 :: u228 :: u229 :: u230 :: u231 :: u232 :: u233 :: u234 :: u235 :: u236 :: u237 :: u238 :: u239 :: u240 :: u241 :: u242 :: u243 :: u244 :: u245 :: u246 :: u247 :: u248 :: u249 :: u250 :: u251 :: u252 :: u253 :: u254 :: u255 :: u256 :: u257 :: u258 :: u259 :: []).toArray, defers := [] } w4 := by
  generalize hQ : bodyPost Tryd.prog Tryd.f16 (RefOut xs w) = Q
  unfold rTail15 codeOf
  simp only [Tryd.f16, tailOf, Option.getD_some]
  subst hQ
  have hrl := hR.lt
  have hzl := hZ.lt
  have hil := hI.lt
  have hsz4 := hb4.size
  obtain ⟨la, hla⟩ : ∃ la, Pe.laid xs = la := ⟨_, rfl⟩
  have hsec : ∀ W, Below w.heap.size w W → Calls Tryd.prog 30 #[.slice A n c, .int .i64 (T : Int), .int .i64 (m : Int), .int .i64 (hd : Int)] W fun e w' => Below W.heap.size W w' ∧ ∃ v z, e = .returned (.tuple #[v, z, .bool la]) ∧ (la = true → z = .int .i64 (Pe.end_ xs : Int) ∧ OwnC 43 2 w' W.heap.size w'.heap.size v (Pe.secs xs).length ((Pe.secs xs).flatMap secC)) := by
    intro W hW
    have h1 := k.tl
    have h2 := k.hdl
    refine (sectionsR_any A n c T m hd xs W ((hr.below hW).more hW.size) k.n_ k.table_ k.many_ k.headers_ (by omega) k.ml k.hdl).mono ?_
    rintro e w' ⟨hb, ht, hf⟩
    refine ⟨hb, ?_⟩
    cases la with
    | true =>
      obtain ⟨v, he, ho⟩ := ht hla
      exact ⟨v, _, he, fun _ => ⟨rfl, ho⟩⟩
    | false =>
      obtain ⟨v, z, he⟩ := hf hla
      exact ⟨v, z, he, fun h => by cases h⟩
  have hcell : ∀ W, Below w4.heap.size w4 W → W.cell? ⟨gx, 0, none⟩ = some (.int .i64 (m : Int)) ∧ W.cell? ⟨gx, 3, none⟩ = some (.int .i64 (hd : Int)) ∧ W.cell? ⟨gy, 1, none⟩ = some (.int .i64 (fr : Int)) ∧ W.cell? ⟨gy, 2, none⟩ = some (.int .i64 (ln : Int)) := fun W hW =>
    ⟨(hW.cell (p := ⟨gx, 0, none⟩) hgx.2.1).trans p0, (hW.cell (p := ⟨gx, 3, none⟩) hgx.2.1).trans p3, (hW.cell (p := ⟨gy, 1, none⟩) hgy.2.1).trans q1, (hW.cell (p := ⟨gy, 2, none⟩) hgy.2.1).trans q2⟩
  have herr := k.err
  have H := Lib.hid (And.intro k (And.intro hr (And.intro hb4 (And.intro hR (And.intro hZ (And.intro hI (And.intro hla (And.intro hsec (And.intro hcell (And.intro hsc (And.intro hsg herr)))))))))))
  clear k hr hb4 hR hZ hI hla hsec hcell hsc hsg herr q1 q2
  go_upto_region 20 with fail
  go_region_held3 (fun w' => w'.cell? ⟨gx, 0, none⟩ = some (.int .i64 (m : Int)) ∧ w'.cell? ⟨gx, 3, none⟩ = some (.int .i64 (hd : Int))) (go_keep)
    (first
      | (go_at_call 30; ((with_reducible refine (H.out.2.2.2.2.2.2.2.1 _ (by exact H.out.2.2.1.drew)).mono ?_); rintro e wa ⟨hba, v, z, rfl, hown⟩); have hwa : Below w.heap.size w wa := H.out.2.2.1.drew.trans (hba.mono H.out.2.2.1.size); have h4a : Below w4.heap.size w4 wa := (Below.refl w4.heap.size w4).drew.trans hba; have p0a := (H.out.2.2.2.2.2.2.2.2.1 wa h4a).1; have p3a := (H.out.2.2.2.2.2.2.2.2.1 wa h4a).2.1; have HA := Lib.hid (And.intro hwa (And.intro h4a hown)); clear hba hwa h4a hown))
  have hRa := H.out.2.2.2.1.below HA.out.2.1 hrl
  have hZa := H.out.2.2.2.2.1.below HA.out.2.1 hzl
  have hIa := H.out.2.2.2.2.2.1.below HA.out.2.1 hil
  have hwa := HA.out.1
  cases la
  · have HE := Lib.hid (And.intro (H.out.2.2.2.2.2.2.2.2.2.2.2.1 H.out.2.2.2.2.2.2.1) (And.intro hZa (And.intro hRa hwa)))
    clear hRa hZa hIa hwa
    go_wp2_with (first
          | ((with_reducible refine at_load_img ?_); refine wpList_load_img rfl _ rfl zb IV.zero rfl HE.out.2.1 ?_)
          | ((with_reducible refine at_store_img ?_); refine wpList_store_img rfl _ _ rfl w.heap.size IV.zero IV.zero rfl rfl HE.out.2.2.1 IV.zero_one ?_; intro wz hBz hgz)
          | fail)
    refine bodyPost_ret (results_cellTmp Tryd.results16 _ _ _ _ _ rfl (load_img hBz)) rfl ⟨HE.out.2.2.2.grown hgz HE.out.2.2.2.size (fun j e => by cases e; exact Nat.le_refl _), IV.zero, ?_, IV.zero_one, fun _ => rfl, fun h => absurd (HE.out.1.symm.trans h) (by decide)⟩
    rw [HE.out.1]; rfl
  · obtain ⟨rfl, hown⟩ := HA.out.2.2 (by first | rfl | trivial)
    obtain ⟨Av, cv, ev, _⟩ := hown.rdS
    obtain ⟨ms, hms⟩ : ∃ k, (Pe.secs xs).length = k := ⟨_, rfl⟩
    rw [hms] at hown ev
    subst ev
    obtain ⟨en, hen⟩ : ∃ k, Pe.end_ xs = k := ⟨_, rfl⟩
    rw [hen]
    have hend : en ≤ 1099511627776 := by
      rw [← hen]
      refine Pe.end_le H.out.1.many_ H.out.1.ml ?_
      have h1 := H.out.1.headers_
      have h2 := H.out.1.hdl
      have h3 := H.out.1.n_
      omega
    have hcl := H.out.2.2.2.2.2.2.2.2.1 wa HA.out.2.1
    obtain ⟨w5, hw5⟩ : ∃ x, wa.setCell ⟨ib, 4, none⟩ (.slice Av ms cv) = x := ⟨_, rfl⟩
    have d4 : wa.cell? ⟨ib, 4, none⟩ = some (.slice none 0 0) := (hIa.cell 4).trans (by rw [← H.out.2.2.2.2.2.2.2.2.2.1]; rfl)
    have g4 := hIa.frozen 4
    have hI5 : Bi w5 ib { C with secs := .slice Av ms cv } := by rw [← hw5]; exact hIa.set_ 4 _
    have hR5 : Bi w5 w.heap.size IV.zero := by rw [← hw5]; exact hRa.far (p := ⟨ib, 4, none⟩) hne.2.1 _
    have hZ5 : Bi w5 zb IV.zero := by rw [← hw5]; exact hZa.far (p := ⟨ib, 4, none⟩) hne.2.2.1.symm.symm _
    have sz5 : w5.heap.size = wa.heap.size := by rw [← hw5]; simp
    have hb5 : Below w.heap.size w w5 := by rw [← hw5]; exact hwa.grown (grownBy_set wa ⟨ib, 4, none⟩ _) (by have := hwa.size; simpa using this) (fun k e => by cases e; exact hne.2.2.2.2)
    have hS5 : OwnC 43 2 w5 w.heap.size w5.heap.size (.slice Av ms cv) (Pe.secs xs).length ((Pe.secs xs).flatMap secC) := by
      rw [hms, ← hw5]
      have hil' : ib < w4.heap.size := hil
      exact (hown.setCell (p := ⟨ib, 4, none⟩) (.inl hil') _).mono hsz4 (by simp)
    have q1 : w5.cell? ⟨gy, 1, none⟩ = some (.int .i64 (fr : Int)) := by rw [← hw5]; exact (World.cell?_of_block (a := ⟨gy, 1, none⟩) (Below.heap_setCell _ _ _ gy hgy.2.2)).trans hcl.2.2.1
    have q2 : w5.cell? ⟨gy, 2, none⟩ = some (.int .i64 (ln : Int)) := by rw [← hw5]; exact (World.cell?_of_block (a := ⟨gy, 2, none⟩) (Below.heap_setCell _ _ _ gy hgy.2.2)).trans hcl.2.2.2
    have hgy5 : w.heap.size ≤ gy ∧ gy < w5.heap.size ∧ gy ≠ ib := ⟨hgy.1, by rw [sz5]; exact Nat.lt_of_lt_of_le hgy.2.1 HA.out.2.1.size, hgy.2.2⟩
    have hfrl := H.out.1.frl
    have hlnl := H.out.1.lnl
    have hn := H.out.1.n_
    have hbare : Pe.bare xs = (fr == 0 && ln == 0) := by unfold Pe.bare; rw [H.out.1.from_, H.out.1.length_]
    have hmod : Int.tmod (fr : Int) 8 = ((fr % 8 : Nat) : Int) := rfl
    have htab : Pe.tabled xs = (decide (0 < ln) && (fr % 8 == 0) && decide (en ≤ fr) && (fr + ln == n)) := by unfold Pe.tabled; rw [H.out.1.from_, H.out.1.length_, hen, H.out.1.len]
    obtain ⟨r8, hr8⟩ : ∃ r8, fr % 8 = r8 := ⟨_, rfl⟩
    rw [hr8] at hmod htab
    clear hr8
    have herr := H.out.2.2.2.2.2.2.2.2.2.2.2.2 H.out.2.2.2.2.2.2.1
    have H5 := Lib.hid (And.intro hI5 (And.intro hR5 (And.intro hZ5 (And.intro hb5 (And.intro hS5 (And.intro hgy5 (And.intro hbare (And.intro htab herr))))))))
    have HQ := Lib.hid (And.intro q1 q2)
    clear hI5 hR5 hZ5 hb5 hS5 hgy5 hbare htab herr hRa hZa hIa hwa hcl hown hms hen p0 p3 p0a p3a sz5
    by_cases f0 : fr = 0 ∧ ln = 0
    · have c1 : ((fr : Int) == 0) = true := by simp; omega
      have c2 : ((ln : Int) == 0) = true := by simp; omega
      have hbt : Pe.bare xs = true := by rw [H5.out.2.2.2.2.2.2.1]; simp [f0]
      have he := H5.out.2.2.2.2.2.2.2.2.1 hbt
      have HE := Lib.hid (And.intro he hbt)
      clear f0 he hbt
      go_upto_region 24 with fail
      clear hw5 d4 g4
      go_wp2_with   (first
        | ((with_reducible refine at_load_img ?_); refine wpList_load_img rfl _ rfl ib _ rfl H5.out.1 ?_)
        | ((with_reducible refine at_store_img ?_); refine wpList_store_img rfl _ _ rfl w.heap.size IV.zero { C with secs := .slice Av ms cv } rfl rfl H5.out.2.1 ⟨⟨_, _, _, rfl⟩, ⟨_, _, _, H.out.2.2.2.2.2.2.2.2.2.2.1⟩⟩ ?_; intro wz hBz hgz)
        | fail)
      refine bodyPost_ret (results_cellTmp Tryd.results16 _ _ _ _ _ rfl (load_img hBz)) rfl ⟨H5.out.2.2.2.1.grown hgz H5.out.2.2.2.1.size (fun j e => by cases e; exact Nat.le_refl _), { C with secs := .slice Av ms cv }, ?_, ⟨⟨_, _, _, rfl⟩, ⟨_, _, _, H.out.2.2.2.2.2.2.2.2.2.2.1⟩⟩, fun h => absurd HE.out.1.1 h, fun _ => ?_⟩
      · rw [HE.out.1.1]; rfl
      · have hnum := H.out.1.nums
        have hszz := hgz.size
        refine ⟨⟨hnum.1, hnum.2.1, hnum.2.2.1, hnum.2.2.2.1, by rw [HE.out.2]; exact hnum.2.2.2.2.1, by rw [HE.out.2]; exact hnum.2.2.2.2.2⟩, ?_, [], ?_, HE.out.1.2.symm⟩
        · exact (H5.out.2.2.2.2.1.keepCells fun k cur fr' _ _ h2 => hgz.block k (Array.getElem?_eq_some_iff.1 h2).1 (fun e' => bi_other H5.out.2.1 h2 (by decide) (by injection e' with e'))).mono (Nat.le_refl _) hszz
        · show XS wz w.heap.size C.sigs []
          rw [H.out.2.2.2.2.2.2.2.2.2.2.1]
          exact XS.nil_
    · have hbf : Pe.bare xs = false := by rw [H5.out.2.2.2.2.2.2.1, Bool.eq_false_iff]; simp; omega
      have HB := Lib.hid hbf
      clear hbf
      by_cases f1 : fr = 0
      · have c1 : ((fr : Int) == 0) = true := by simp; omega
        have F1 := Lib.hid f1
        by_cases t1 : ln = 0
        · exact absurd ⟨f1, t1⟩ f0
        · clear f1
          have c2 : ((ln : Int) == 0) = false := by simp; omega
          have T1 := Lib.hid t1
          clear t1 f0
          go_upto_region 26 with fail
          clear hw5 d4 g4
          have t1 := T1.out
          by_cases t2 : ¬ r8 = 0
          · have c3 : ((r8 : Int) != 0) = true := by simp; omega
            have htf : Pe.tabled xs = false := by rw [H5.out.2.2.2.2.2.2.2.1, Bool.eq_false_iff]; simp; omega
            have HE := Lib.hid (And.intro (H5.out.2.2.2.2.2.2.2.2.2 HB.out htf) (And.intro H5.out.2.2.1 (And.intro H5.out.2.1 H5.out.2.2.2.1)))
            clear htf
            (repeat (first | clear t4 | clear t3 | clear t2 | clear t1))
            go_quiet (fail)
            go_wp2_with (first
                  | ((with_reducible refine at_load_img ?_); refine wpList_load_img rfl _ rfl zb IV.zero rfl HE.out.2.1 ?_)
                  | ((with_reducible refine at_store_img ?_); refine wpList_store_img rfl _ _ rfl w.heap.size IV.zero IV.zero rfl rfl HE.out.2.2.1 IV.zero_one ?_; intro wz hBz hgz)
                  | fail)
            refine bodyPost_ret (results_cellTmp Tryd.results16 _ _ _ _ _ rfl (load_img hBz)) rfl ⟨(below_drewN HE.out.2.2.2 _).grown hgz HE.out.2.2.2.size (fun j e => by cases e; exact Nat.le_refl _), IV.zero, ?_, IV.zero_one, fun _ => rfl, fun h => absurd (HE.out.1.symm.trans h) (by decide)⟩
            rw [HE.out.1]; rfl
          · have c3 : ((r8 : Int) != 0) = false := by simp; omega
            by_cases t3 : fr < en
            · have c4 : (fr : Int) < en := by omega
              have htf : Pe.tabled xs = false := by rw [H5.out.2.2.2.2.2.2.2.1, Bool.eq_false_iff]; simp; omega
              have HE := Lib.hid (And.intro (H5.out.2.2.2.2.2.2.2.2.2 HB.out htf) (And.intro H5.out.2.2.1 (And.intro H5.out.2.1 H5.out.2.2.2.1)))
              clear htf
              (repeat (first | clear t4 | clear t3 | clear t2 | clear t1))
              go_quiet (fail)
              go_wp2_with (first
                    | ((with_reducible refine at_load_img ?_); refine wpList_load_img rfl _ rfl zb IV.zero rfl HE.out.2.1 ?_)
                    | ((with_reducible refine at_store_img ?_); refine wpList_store_img rfl _ _ rfl w.heap.size IV.zero IV.zero rfl rfl HE.out.2.2.1 IV.zero_one ?_; intro wz hBz hgz)
                    | fail)
              refine bodyPost_ret (results_cellTmp Tryd.results16 _ _ _ _ _ rfl (load_img hBz)) rfl ⟨(below_drewN HE.out.2.2.2 _).grown hgz HE.out.2.2.2.size (fun j e => by cases e; exact Nat.le_refl _), IV.zero, ?_, IV.zero_one, fun _ => rfl, fun h => absurd (HE.out.1.symm.trans h) (by decide)⟩
              rw [HE.out.1]; rfl
            · have c4 : ¬ (fr : Int) < en := by omega
              by_cases t4 : ¬ fr + ln = n
              · have c5 : ((fr : Int) + ln != n) = true := by simp; omega
                have htf : Pe.tabled xs = false := by rw [H5.out.2.2.2.2.2.2.2.1, Bool.eq_false_iff]; simp; omega
                have HE := Lib.hid (And.intro (H5.out.2.2.2.2.2.2.2.2.2 HB.out htf) (And.intro H5.out.2.2.1 (And.intro H5.out.2.1 H5.out.2.2.2.1)))
                clear htf
                (repeat (first | clear t4 | clear t3 | clear t2 | clear t1))
                go_quiet (fail)
                go_wp2_with (first
                      | ((with_reducible refine at_load_img ?_); refine wpList_load_img rfl _ rfl zb IV.zero rfl HE.out.2.1 ?_)
                      | ((with_reducible refine at_store_img ?_); refine wpList_store_img rfl _ _ rfl w.heap.size IV.zero IV.zero rfl rfl HE.out.2.2.1 IV.zero_one ?_; intro wz hBz hgz)
                      | fail)
                refine bodyPost_ret (results_cellTmp Tryd.results16 _ _ _ _ _ rfl (load_img hBz)) rfl ⟨(below_drewN HE.out.2.2.2 _).grown hgz HE.out.2.2.2.size (fun j e => by cases e; exact Nat.le_refl _), IV.zero, ?_, IV.zero_one, fun _ => rfl, fun h => absurd (HE.out.1.symm.trans h) (by decide)⟩
                rw [HE.out.1]; rfl
              · have c5 : ((fr : Int) + ln != n) = false := by simp; omega
                have t4' : fr + ln = n := by omega
                have htt : Pe.tabled xs = true := by rw [H5.out.2.2.2.2.2.2.2.1]; simp; omega
                have HT := Lib.hid (And.intro htt t4')
                clear htt t1 t2 t3 t4 t4'
                go_quiet (fail)
                apply_assumption
                refine wp_cond_false (by rfl) (wp_skip ?_)
                apply_assumption
                exact ref_tail20 (C := { C with secs := .slice Av ms cv }) ⟨H.out.1.len, H.out.1.n_, H.out.1.head, H.out.2.2.2.2.2.2.1, HT.out.1, HB.out, H.out.1.from_, H.out.1.length_, H.out.1.nums, by have := HT.out.2; omega, by have := HT.out.2; omega⟩ H.out.2.1 ⟨⟨_, _, _, rfl⟩, ⟨_, _, _, H.out.2.2.2.2.2.2.2.2.2.2.1⟩⟩ H.out.2.2.2.2.2.2.2.2.2.2.1 _ (below_drewN H5.out.2.2.2.1 _) (H5.out.2.1.drewN _) (H5.out.2.2.1.drewN _) (H5.out.1.drewN _) hne H5.out.2.2.2.2.2.1 HQ.out.1 HQ.out.2 (OwnC.keep H5.out.2.2.2.2.1 fun _ _ _ => rfl) _ _ _ _ _ _ _ _ _ _ _ _ _ _ _ _ _ _ _ _ _ _ _ _ _ _ _ _ _ _ _ _ _ _ _ _ _ _ _ _ _ _ _ _ _ _ _ _ _ _ _ _ _ _ _ _ _ _ _ _ _ _ _ _ _ _ _ _ _ _ _ _ _ _ _ _ _ _ _ _ _ _ _ _ _ _ _ _ _ _ _ _ _ _ _ _ _ _ _ _ _ _ _ _ _ _ _ _ _ _ _ _ _ _ _ _ _ _ _ _ _ _ _ _ _ _ _ _ _ _ _ _ _ _ _ _ _ _ _ _ _ _ _ _ _ _ _ _ _ _ _ _ _ _ _ _ _ _ _ _ _ _ _ _ _ _ _ _ _ _ _ _ _ _ _ _ _ _ _ _ _ _ _ _ _ _ _ _ _ _ _ _ _ _ _ _ _ _ _ _ _ _ _ _ _ _ _ _ _ _ _ _ _ _ _ _ _ _ _ _ _ _ _ _ _ _ _ _ _ _ _ _ _ _ _ _ _ _ _ _ _ _ _ _ _ _ _ _ _ _ _ _ _ _ _
      · have c1 : ((fr : Int) == 0) = false := by simp; omega
        have F1 := Lib.hid f1
        by_cases t1 : ln = 0
        · clear f1
          have c2 : ((ln : Int) == 0) = true := by simp; omega
          have T1 := Lib.hid t1
          clear t1 f0
          go_upto_region 26 with fail
          clear hw5 d4 g4
          have t1 := T1.out
          have htf : Pe.tabled xs = false := by rw [H5.out.2.2.2.2.2.2.2.1, Bool.eq_false_iff]; simp; omega
          have HE := Lib.hid (And.intro (H5.out.2.2.2.2.2.2.2.2.2 HB.out htf) (And.intro H5.out.2.2.1 (And.intro H5.out.2.1 H5.out.2.2.2.1)))
          clear htf
          (repeat (first | clear t4 | clear t3 | clear t2 | clear t1))
          go_quiet (fail)
          go_wp2_with (first
                | ((with_reducible refine at_load_img ?_); refine wpList_load_img rfl _ rfl zb IV.zero rfl HE.out.2.1 ?_)
                | ((with_reducible refine at_store_img ?_); refine wpList_store_img rfl _ _ rfl w.heap.size IV.zero IV.zero rfl rfl HE.out.2.2.1 IV.zero_one ?_; intro wz hBz hgz)
                | fail)
          refine bodyPost_ret (results_cellTmp Tryd.results16 _ _ _ _ _ rfl (load_img hBz)) rfl ⟨(below_drewN HE.out.2.2.2 _).grown hgz HE.out.2.2.2.size (fun j e => by cases e; exact Nat.le_refl _), IV.zero, ?_, IV.zero_one, fun _ => rfl, fun h => absurd (HE.out.1.symm.trans h) (by decide)⟩
          rw [HE.out.1]; rfl
        · clear f1
          have c2 : ((ln : Int) == 0) = false := by simp; omega
          have T1 := Lib.hid t1
          clear t1 f0
          go_upto_region 26 with fail
          clear hw5 d4 g4
          have t1 := T1.out
          by_cases t2 : ¬ r8 = 0
          · have c3 : ((r8 : Int) != 0) = true := by simp; omega
            have htf : Pe.tabled xs = false := by rw [H5.out.2.2.2.2.2.2.2.1, Bool.eq_false_iff]; simp; omega
            have HE := Lib.hid (And.intro (H5.out.2.2.2.2.2.2.2.2.2 HB.out htf) (And.intro H5.out.2.2.1 (And.intro H5.out.2.1 H5.out.2.2.2.1)))
            clear htf
            (repeat (first | clear t4 | clear t3 | clear t2 | clear t1))
            go_quiet (fail)
            go_wp2_with (first
                  | ((with_reducible refine at_load_img ?_); refine wpList_load_img rfl _ rfl zb IV.zero rfl HE.out.2.1 ?_)
                  | ((with_reducible refine at_store_img ?_); refine wpList_store_img rfl _ _ rfl w.heap.size IV.zero IV.zero rfl rfl HE.out.2.2.1 IV.zero_one ?_; intro wz hBz hgz)
                  | fail)
            refine bodyPost_ret (results_cellTmp Tryd.results16 _ _ _ _ _ rfl (load_img hBz)) rfl ⟨(below_drewN HE.out.2.2.2 _).grown hgz HE.out.2.2.2.size (fun j e => by cases e; exact Nat.le_refl _), IV.zero, ?_, IV.zero_one, fun _ => rfl, fun h => absurd (HE.out.1.symm.trans h) (by decide)⟩
            rw [HE.out.1]; rfl
          · have c3 : ((r8 : Int) != 0) = false := by simp; omega
            by_cases t3 : fr < en
            · have c4 : (fr : Int) < en := by omega
              have htf : Pe.tabled xs = false := by rw [H5.out.2.2.2.2.2.2.2.1, Bool.eq_false_iff]; simp; omega
              have HE := Lib.hid (And.intro (H5.out.2.2.2.2.2.2.2.2.2 HB.out htf) (And.intro H5.out.2.2.1 (And.intro H5.out.2.1 H5.out.2.2.2.1)))
              clear htf
              (repeat (first | clear t4 | clear t3 | clear t2 | clear t1))
              go_quiet (fail)
              go_wp2_with (first
                    | ((with_reducible refine at_load_img ?_); refine wpList_load_img rfl _ rfl zb IV.zero rfl HE.out.2.1 ?_)
                    | ((with_reducible refine at_store_img ?_); refine wpList_store_img rfl _ _ rfl w.heap.size IV.zero IV.zero rfl rfl HE.out.2.2.1 IV.zero_one ?_; intro wz hBz hgz)
                    | fail)
              refine bodyPost_ret (results_cellTmp Tryd.results16 _ _ _ _ _ rfl (load_img hBz)) rfl ⟨(below_drewN HE.out.2.2.2 _).grown hgz HE.out.2.2.2.size (fun j e => by cases e; exact Nat.le_refl _), IV.zero, ?_, IV.zero_one, fun _ => rfl, fun h => absurd (HE.out.1.symm.trans h) (by decide)⟩
              rw [HE.out.1]; rfl
            · have c4 : ¬ (fr : Int) < en := by omega
              by_cases t4 : ¬ fr + ln = n
              · have c5 : ((fr : Int) + ln != n) = true := by simp; omega
                have htf : Pe.tabled xs = false := by rw [H5.out.2.2.2.2.2.2.2.1, Bool.eq_false_iff]; simp; omega
                have HE := Lib.hid (And.intro (H5.out.2.2.2.2.2.2.2.2.2 HB.out htf) (And.intro H5.out.2.2.1 (And.intro H5.out.2.1 H5.out.2.2.2.1)))
                clear htf
                (repeat (first | clear t4 | clear t3 | clear t2 | clear t1))
                go_quiet (fail)
                go_wp2_with (first
                      | ((with_reducible refine at_load_img ?_); refine wpList_load_img rfl _ rfl zb IV.zero rfl HE.out.2.1 ?_)
                      | ((with_reducible refine at_store_img ?_); refine wpList_store_img rfl _ _ rfl w.heap.size IV.zero IV.zero rfl rfl HE.out.2.2.1 IV.zero_one ?_; intro wz hBz hgz)
                      | fail)
                refine bodyPost_ret (results_cellTmp Tryd.results16 _ _ _ _ _ rfl (load_img hBz)) rfl ⟨(below_drewN HE.out.2.2.2 _).grown hgz HE.out.2.2.2.size (fun j e => by cases e; exact Nat.le_refl _), IV.zero, ?_, IV.zero_one, fun _ => rfl, fun h => absurd (HE.out.1.symm.trans h) (by decide)⟩
                rw [HE.out.1]; rfl
              · have c5 : ((fr : Int) + ln != n) = false := by simp; omega
                have t4' : fr + ln = n := by omega
                have htt : Pe.tabled xs = true := by rw [H5.out.2.2.2.2.2.2.2.1]; simp; omega
                have HT := Lib.hid (And.intro htt t4')
                clear htt t1 t2 t3 t4 t4'
                go_quiet (fail)
                apply_assumption
                refine wp_cond_false (by rfl) (wp_skip ?_)
                apply_assumption
                exact ref_tail20 (C := { C with secs := .slice Av ms cv }) ⟨H.out.1.len, H.out.1.n_, H.out.1.head, H.out.2.2.2.2.2.2.1, HT.out.1, HB.out, H.out.1.from_, H.out.1.length_, H.out.1.nums, by have := HT.out.2; omega, by have := HT.out.2; omega⟩ H.out.2.1 ⟨⟨_, _, _, rfl⟩, ⟨_, _, _, H.out.2.2.2.2.2.2.2.2.2.2.1⟩⟩ H.out.2.2.2.2.2.2.2.2.2.2.1 _ (below_drewN H5.out.2.2.2.1 _) (H5.out.2.1.drewN _) (H5.out.2.2.1.drewN _) (H5.out.1.drewN _) hne H5.out.2.2.2.2.2.1 HQ.out.1 HQ.out.2 (OwnC.keep H5.out.2.2.2.2.1 fun _ _ _ => rfl) _ _ _ _ _ _ _ _ _ _ _ _ _ _ _ _ _ _ _ _ _ _ _ _ _ _ _ _ _ _ _ _ _ _ _ _ _ _ _ _ _ _ _ _ _ _ _ _ _ _ _ _ _ _ _ _ _ _ _ _ _ _ _ _ _ _ _ _ _ _ _ _ _ _ _ _ _ _ _ _ _ _ _ _ _ _ _ _ _ _ _ _ _ _ _ _ _ _ _ _ _ _ _ _ _ _ _ _ _ _ _ _ _ _ _ _ _ _ _ _ _ _ _ _ _ _ _ _ _ _ _ _ _ _ _ _ _ _ _ _ _ _ _ _ _ _ _ _ _ _ _ _ _ _ _ _ _ _ _ _ _ _ _ _ _ _ _ _ _ _ _ _ _ _ _ _ _ _ _ _ _ _ _ _ _ _ _ _ _ _ _ _ _ _ _ _ _ _ _ _ _ _ _ _ _ _ _ _ _ _ _ _ _ _ _ _ _ _ _ _ _ _ _ _ _ _ _ _ _ _ _ _ _ _ _ _ _ _ _ _ _ _ _ _ _ _ _ _ _ _ _ _ _ _ _
end Go.Proofs.YtlfajfmkljnodaaDoor
