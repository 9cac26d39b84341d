/- The end of the reference's Parse: the rows. -/
import Derived.Test.YtlfajfmkljnodaaDoorPeR5
import Derived.Test.YtlfajfmkljnodaaDoorPeR6
namespace Go.Proofs.YtlfajfmkljnodaaDoor
open Go.RowKit
set_option maxRecDepth 100000
set_option linter.unusedVariables false
set_option linter.unusedSimpArgs false
noncomputable def rTail20 : Code := tailOf 20 (codeOf Tryd.f16)
/-- What the reference's Parse knows behind the sections. -/
structure RfK (xs : List UInt8) (n fr ln : Nat) (C : IV) : Prop where
  len : xs.length = n
  n_ : n ≤ 16777216
  head : Pe.head xs = true
  laid : Pe.laid xs = true
  tabled : Pe.tabled xs = true
  bare : Pe.bare xs = false
  from_ : Pe.from_ xs = fr
  length_ : Pe.length xs = ln
  nums : C.plus = Pe.plus xs ∧ C.check = Pe.opt xs + 64 ∧ C.dir = Pe.dirs xs + 32 ∧ C.headers = Pe.headers xs ∧ C.table = 0 ∧ C.length = 0
  frl : fr ≤ n
  lnl : ln ≤ n
theorem RfK.err {xs : List UInt8} {n fr ln : Nat} {C : IV} (k : RfK xs n fr ln C) : (Pe.rows xs fr = none → Pe.err xs = 9) ∧ (∀ l, Pe.rows xs fr = some l → (8 < l.length → Pe.err xs = 10) ∧ (¬ 8 < l.length → Pe.err xs = 0) ∧ Pe.sigs xs = l) := by
  have hf : Pe.fine xs = (Pe.rows xs fr).isSome := by unfold Pe.fine Pe.signed; rw [k.head, k.laid, k.tabled, k.bare, k.from_]; simp
  have hs : ∀ l, Pe.rows xs fr = some l → Pe.sigs xs = l := fun l h => by unfold Pe.sigs; rw [k.bare, k.from_, h]; rfl
  have hn := k.n_
  have hl := k.len
  refine ⟨fun h => ?_, fun l h => ⟨fun h8 => ?_, fun h8 => ?_, hs l h⟩⟩
  · unfold Pe.err
    rw [if_neg (by omega), hf, h]; rfl
  · unfold Pe.err
    rw [if_neg (by omega), hf, h, hs l h, if_pos (by rfl), if_pos h8]
  · unfold Pe.err
    rw [if_neg (by omega), hf, h, hs l h, if_pos (by rfl), if_neg h8]
theorem XS.keepI {w w' : World} {lo : Nat} {v : Value} {l : List (Value × List UInt8)} (h : XS w lo v l) (hs : w.heap.size ≤ w'.heap.size) (hk : ∀ (k : Nat) (cs : Array Value) (e : TypeId) (fr : Nat × Nat), w.heap[k]? = some (.cells cs e fr) → e ≠ 28 → w'.heap[k]? = w.heap[k]?) : XS w' lo v l :=
  ⟨(h.1.keepCells fun k cur fr _ _ h2 => hk k cur _ fr h2 (by decide)).mono (Nat.le_refl _) hs, fun p hp => (h.2 p hp).keep hs fun g cs fr hg => hk g cs _ fr hg (by decide)⟩
theorem bi_other {w : World} {g k : Nat} {C : IV} {cs : Array Value} {e : TypeId} {fr : Nat × Nat} (h : Bi w g C) (h1 : w.heap[k]? = some (.cells cs e fr)) (h2 : e ≠ 28) : k ≠ g := by
  rintro rfl
  unfold Bi Blk at h
  rw [h] at h1
  injection h1 with h1
  injection h1 with h4 h5
  exact h2 h5.symm
set_option maxHeartbeats 4000000 in
theorem ref_tail20 {w : World} {n c zb ib gy cy fr ln : Nat} {A : Option Addr} {xs : List UInt8} {C : IV} (k : RfK xs n fr ln C) (hr : Rd w w.heap.size A n c xs) (hone : C.One) (hsg : C.sigs = .slice none 0 0) (w6 : World) (hb6 : Below w.heap.size w w6)
    (hR : Bi w6 w.heap.size IV.zero) (hZ : Bi w6 zb IV.zero) (hI : Bi w6 ib C) (hne : w.heap.size ≠ zb ∧ w.heap.size ≠ ib ∧ zb ≠ ib ∧ w.heap.size ≤ zb ∧ w.heap.size ≤ ib)
    (hgy : w.heap.size ≤ gy ∧ gy < w6.heap.size ∧ gy ≠ ib) (q1 : w6.cell? ⟨gy, 1, none⟩ = some (.int .i64 (fr : Int))) (q2 : w6.cell? ⟨gy, 2, none⟩ = some (.int .i64 (ln : Int)))
    (hS : OwnC 43 2 w6 w.heap.size w6.heap.size C.secs (Pe.secs xs).length ((Pe.secs xs).flatMap secC)) (u1 u3 u5 u6 u7 u8 u10 u12 u13 u14 u15 u16 u17 u18 u19 u20 u21 u22 u23 u24 u25 u26 u27 u28 u29 u30 u31 u32 u33 u34 u35 u36 u37 u38 u39 u40 u41 u42 u43 u44 u45 u46 u47 u48 u49 u50 u51 u52 u53 u54 u55 u56 u57 u58 u59 u60 u61 u62 u63 u64 u65 u66 u67 u68 u69 u70 u71 u72 u73 u74 u75 u76 u77 u78 u79 u80 u81 u82 u83 u84 u85 u86 u87 u88 u89 u90 u91 u92 u93 u94 u95 u96 u97 u98 u99 u100 u101 u102 u103 u104 u105 u106 u107 u108 u109 u110 u111 u112 u113 u114 u115 u116 u117 u118 u119 u120 u121 u122 u123 u124 u125 u126 u127 u128 u129 u130 u131 u132 u133 u134 u135 u136 u137 u138 u139 u140 u141 u142 u143 u144 u145 u146 u147 u148 u149 u150 u151 u152 u153 u154 u155 u156 u157 u158 u159 u160 u161 u162 u163 u164 u165 u166 u167 u168 u169 u170 u171 u172 u173 u174 u175 u176 u177 u178 u179 u180 u181 u182 u183 u184 u185 u186 u187 u188 u189 u190 u191 u192 u193 u194 u195 u196 u197 u198 u199 u200 u201 u202 u203 u204 u205 u206 u207 u208 u209 u210 u211 u212 u213 u214 u215 u216 u217 u218 u219 u220 u221 u222 u223 u224 u225 u226 u227 u228 u229 u230 u231 u232 u233 u234 u235 u236 u237 u238 u239 u240 u241 u242 u243 u244 u245 u246 u247 u248 u249 u250 u251 u252 u253 u254 u255 u256 u257 u258 u259 : Value) :
    rTail20.wp Tryd.prog (bodyPost Tryd.prog Tryd.f16 (RefOut xs w)) { tmps := (Value.slice A n c :: u1 :: Value.pointer (some ⟨w.heap.size, 0, none⟩) :: u3 :: Value.pointer (some ⟨zb, 0, none⟩) :: u5 :: u6 :: u7 :: u8 :: Value.pointer (some ⟨ib, 0, none⟩) :: u10 :: Value.slice (some ⟨gy, 0, none⟩) 3 cy :: u12 :: u13 :: u14 :: u15 :: u16 :: u17 :: u18 :: u19 :: u20 :: u21 :: u22 :: u23 :: u24 :: u25 :: u26 :: u27 :: u28 :: u29 :: u30 :: u31 :: u32 :: u33 :: u34 :: u35 :: u36 :: u37 :: u38 :: u39 :: u40 :: u41 :: u42 :: u43 :: u44 :: u45 :: u46 :: u47 :: u48 :: u49 :: u50 :: u51 :: u52 :: u53 :: u54 :: u55 :: u56 :: u57 :: u58 :: u59 :: u60 :: u61 :: u62 :: u63 :: u64 :: u65 :: u66 :: u67 :: u68 :: u69 :: u70 :: u71 :: u72 :: u73 :: u74 :: u75 :: u76 :: u77 :: u78 :: u79 :: u80 :: u81 :: u82 :: u83 :: u84 :: u85 :: u86 :: u87 :: u88 :: u89 :: u90 :: u91 :: u92 :: u93 :: u94 :: u95 :: u96 :: u97 :: u98 :: u99 :: u100 :: u101 :: u102 :: u103 :: u104 :: u105 :: u106 :: u107 :: u108 :: u109 :: u110 :: u111 :: u112 :: u113 :: u114 :: u115 :: u116 :: u117 :: u118 :: u119 :: u120 :: u121 :: u122 :: u123 :: u124 :: u125 :: u126 :: u127 :: u128 :: u129 :: u130 :: u131 :: u132 :: u133 :: u134 :: u135 :: u136 :: u137 :: u138 :: u139 :: u140 :: u141 :: u142 :: u143 :: u144 :: u145 :: u146 :: u147 :: u148 :: u149 :: u150 :: u151 :: u152 :: u153 :: u154 :: u155 :: u156 :: u157 :: u158 :: u159 :: u160 :: u161 :: u162 :: u163 :: u164 :: u165 :: u166 :: u167 :: u168 :: u169 :: u170 :: u171 :: u172 :: u173 :: u174 :: u175 :: u176 :: u177 :: u178 :: u179 :: u180 :: u181 :: u182 :: u183 :: u184 :: u185 :: u186 :: u187 :: u188 :: u189 :: u190 :: u191 :: u192 :: u193 :: u194 :: u195 :: u196 :: u197 :: u198 :: u199 :: u200 :: u201 :: u202 :: u203 :: u204 :: u205 :: u206 :: u207 :: u208 :: u209 :: u210 :: u211 :: u212 :: u213 :: u214 :: u215 :: u216 :: u217 :: u218 :: u219 :: u220 :: u221 :: u222 :: u223 :: u224 :: u225 :: u226 :: u227 :: u228 :: u229 :: u230 :: u231 :: u232 :: u233 :: u234 :: u235 :: u236 :: u237 :: u238 :: u239 :: u240 :: u241 :: u242 :: u243 :: u244 :: u245 :: u246 :: u247 :: u248 :: u249 :: u250 :: u251 :: u252 :: u253 :: u254 :: u255 :: u256 :: u257 :: u258 :: u259 :: []).toArray, defers := [] } w6 := by
  generalize hQ : bodyPost Tryd.prog Tryd.f16 (RefOut xs w) = Q
  unfold rTail20 codeOf
  simp only [Tryd.f16, tailOf, Option.getD_some]
  subst hQ
  have hrl := hR.lt
  have hzl := hZ.lt
  have hil := hI.lt
  have hrows := rowsR_any A n c fr xs w6 ((hr.below hb6).more hb6.size) k.n_ k.frl
  have herr := k.err
  have hsz6 := hb6.size
  have H := Lib.hid (And.intro k (And.intro hr (And.intro hone (And.intro hsg (And.intro hb6 (And.intro hR (And.intro hZ (And.intro hI (And.intro hS (And.intro hrows herr))))))))))
  clear k hr hone hsg hb6 hR hZ hI hS hrows herr
  go_wp2_with fail
  refine H.out.2.2.2.2.2.2.2.2.2.1.mono ?_
  rintro e w7 ⟨hb7, h9, h10, h0⟩
  have hZ7 := H.out.2.2.2.2.2.2.1.below hb7 hzl
  have hR7 := H.out.2.2.2.2.2.1.below hb7 hrl
  have hbw7 := H.out.2.2.2.2.1.trans (hb7.mono hsz6)
  cases hrw : Pe.rows xs fr with
  | none =>
    obtain rfl := h9 hrw
    have he := H.out.2.2.2.2.2.2.2.2.2.2.1 hrw
    have HE := Lib.hid (And.intro he (And.intro hZ7 (And.intro hR7 hbw7)))
    clear h9 h10 h0 hrw he hZ7 hR7 hbw7 hb7 q1 q2
    go_wp2_with (first
      | ((with_reducible refine at_load_img ?_); refine wpList_load_img rfl _ rfl zb IV.zero rfl HE.out.2.1 ?_)
      | ((with_reducible refine at_store_img ?_); refine wpList_store_img rfl _ _ rfl w.heap.size IV.zero IV.zero rfl rfl HE.out.2.2.1 IV.zero_one ?_; intro wz hBz hgz)
      | fail)
    refine bodyPost_ret (results_cellTmp Tryd.results16 _ _ _ _ _ rfl (load_img hBz)) rfl ⟨HE.out.2.2.2.grown hgz HE.out.2.2.2.size (fun j e => by cases e; exact Nat.le_refl _), IV.zero, ?_, IV.zero_one, fun _ => rfl, fun h => absurd (HE.out.1.symm.trans h) (by decide)⟩
    rw [HE.out.1]; rfl
  | some l =>
    by_cases h8 : 8 < l.length
    · obtain rfl := h10 l hrw h8
      have he := (H.out.2.2.2.2.2.2.2.2.2.2.2 l hrw).1 h8
      have HE := Lib.hid (And.intro he (And.intro hZ7 (And.intro hR7 hbw7)))
      clear h9 h10 h0 hrw he hZ7 hR7 hbw7 hb7 q1 q2 h8
      go_wp2_with (first
        | ((with_reducible refine at_load_img ?_); refine wpList_load_img rfl _ rfl zb IV.zero rfl HE.out.2.1 ?_)
        | ((with_reducible refine at_store_img ?_); refine wpList_store_img rfl _ _ rfl w.heap.size IV.zero IV.zero rfl rfl HE.out.2.2.1 IV.zero_one ?_; intro wz hBz hgz)
        | fail)
      refine bodyPost_ret (results_cellTmp Tryd.results16 _ _ _ _ _ rfl (load_img hBz)) rfl ⟨HE.out.2.2.2.grown hgz HE.out.2.2.2.size (fun j e => by cases e; exact Nat.le_refl _), IV.zero, ?_, IV.zero_one, fun _ => rfl, fun h => absurd (HE.out.1.symm.trans h) (by decide)⟩
      rw [HE.out.1]; rfl
    · obtain ⟨v, ls, rfl, hX, hls⟩ := h0 l hrw h8
      obtain ⟨_, he0, hsg⟩ := H.out.2.2.2.2.2.2.2.2.2.2.2 l hrw
      have he := he0 h8
      obtain ⟨Av, cv, ev, _⟩ := hX.rdl
      have hI7 := H.out.2.2.2.2.2.2.2.1.below hb7 hil
      have hs7 := hb7.size
      have q1' := (hb7.cell (p := ⟨gy, 1, none⟩) hgy.2.1).trans q1
      have q2' := (hb7.cell (p := ⟨gy, 2, none⟩) hgy.2.1).trans q2
      have hfrl := H.out.1.frl
      have hlnl := H.out.1.lnl
      have hn := H.out.1.n_
      have hwf : IntKind.u32.wrap (fr : Int) = (fr : Int) := by simp only [IntKind.wrap, IntKind.bits, IntKind.signed]; simp; omega
      have hwl : IntKind.u32.wrap (ln : Int) = (ln : Int) := by simp only [IntKind.wrap, IntKind.bits, IntKind.signed]; simp; omega
      obtain ⟨w8, hw8⟩ : ∃ x, w7.setCell ⟨ib, 5, none⟩ (.int .u32 (fr : Int)) = x := ⟨_, rfl⟩
      obtain ⟨w9, hw9⟩ : ∃ x, w8.setCell ⟨ib, 6, none⟩ (.int .u32 (ln : Int)) = x := ⟨_, rfl⟩
      obtain ⟨wa, hwa⟩ : ∃ x, w9.setCell ⟨ib, 7, none⟩ v = x := ⟨_, rfl⟩
      have hI8 : Bi w8 ib { C with table := fr } := by rw [← hw8]; exact hI7.set_ 5 _
      have hI9 : Bi w9 ib { C with table := fr, length := ln } := by rw [← hw9]; exact hI8.set_ 6 _
      have hIa : Bi wa ib { C with table := fr, length := ln, sigs := v } := by rw [← hwa]; exact hI9.set_ 7 _
      have e8 : ∀ k, k ≠ ib → w8.heap[k]? = w7.heap[k]? := fun k hk => by rw [← hw8]; exact Below.heap_setCell _ _ _ k hk
      have e9 : ∀ k, k ≠ ib → w9.heap[k]? = w7.heap[k]? := fun k hk => by rw [← hw9]; exact (Below.heap_setCell _ _ _ k hk).trans (e8 k hk)
      have ea : ∀ k, k ≠ ib → wa.heap[k]? = w7.heap[k]? := fun k hk => by rw [← hwa]; exact (Below.heap_setCell _ _ _ k hk).trans (e9 k hk)
      have q28 : w8.cell? ⟨gy, 2, none⟩ = some (.int .i64 (ln : Int)) := (World.cell?_of_block (a := ⟨gy, 2, none⟩) (e8 gy hgy.2.2)).trans q2'
      have d5 : w7.cell? ⟨ib, 5, none⟩ = some (.int .u32 (C.table : Int)) := hI7.cell 5
      have d6 : w8.cell? ⟨ib, 6, none⟩ = some (.int .u32 (C.length : Int)) := hI8.cell 6
      have d7 : w9.cell? ⟨ib, 7, none⟩ = some C.sigs := hI9.cell 7
      have g5 := hI7.frozen 5
      have g6 := hI8.frozen 6
      have g7 := hI9.frozen 7
      have sza : wa.heap.size = w7.heap.size := by rw [← hwa, ← hw9, ← hw8]; simp
      have hRa : Bi wa w.heap.size IV.zero := (ea _ hne.2.1).trans hR7
      have hXa : XS wa w6.heap.size v ls := hX.keepI (by omega) fun k cs e fr' h1 h2 => ea k (fun h3 => by
        subst h3
        have := hI7
        unfold Bi Blk at this
        rw [this] at h1
        injection h1 with h1
        injection h1 with h4 h5
        exact h2 h5.symm)
      have hba : Below w.heap.size w wa := by
        rw [← hwa, ← hw9, ← hw8]
        exact ((hbw7.grown (grownBy_set w7 ⟨ib, 5, none⟩ _) hbw7.size (fun k e => by cases e; exact hne.2.2.2.2)).grown (grownBy_set _ ⟨ib, 6, none⟩ _) (by have := hbw7.size; simpa using this) (fun k e => by cases e; exact hne.2.2.2.2)).grown (grownBy_set _ ⟨ib, 7, none⟩ _) (by have := hbw7.size; simpa using this) (fun k e => by cases e; exact hne.2.2.2.2)
      have hSa : OwnC 43 2 wa w.heap.size wa.heap.size C.secs (Pe.secs xs).length ((Pe.secs xs).flatMap secC) := by
        have h1 := H.out.2.2.2.2.2.2.2.2.1.below hb7 (Nat.le_refl _)
        refine (h1.keepCells fun k cur fr' _ _ h2 => ea k (fun h3 => ?_)).mono (Nat.le_refl _) (by omega)
        subst h3
        have := hI7
        unfold Bi Blk at this
        rw [this] at h2
        injection h2 with h2
        injection h2 with h4 h5
        exact absurd h5 (by decide)
      have HV := Lib.hid (And.intro he (And.intro hsg (And.intro hls (And.intro hXa (And.intro hRa (And.intro hIa (And.intro hSa hba)))))))
      clear h9 h10 h0 hrw he he0 hsg hls hX hXa hRa hSa hba hI7 hI8 hI9 hIa e8 e9 ea hZ7 hR7 hbw7 hb7 q1 q2 q2' h8
      subst ev
      go_wp2_with (first
        | ((with_reducible refine at_load_img ?_); refine wpList_load_img rfl _ rfl ib _ rfl HV.out.2.2.2.2.2.1 ?_)
        | ((with_reducible refine at_store_img ?_); refine wpList_store_img rfl _ _ rfl w.heap.size IV.zero { C with table := fr, length := ln, sigs := .slice Av ls.length cv } rfl rfl HV.out.2.2.2.2.1 ⟨H.out.2.2.1.1, ⟨_, _, _, rfl⟩⟩ ?_; intro wz hBz hgz)
        | fail)
      have hkz : ∀ (k : Nat) (cs : Array Value) (e : TypeId) (fr' : Nat × Nat), wa.heap[k]? = some (.cells cs e fr') → e ≠ 28 → wz.heap[k]? = wa.heap[k]? := fun k cs e fr' h1 h2 => hgz.block k (Array.getElem?_eq_some_iff.1 h1).1 (fun e' => bi_other HV.out.2.2.2.2.1 h1 h2 (by injection e' with e'))
      have hszz := hgz.size
      have hnum := H.out.1.nums
      refine bodyPost_ret (results_cellTmp Tryd.results16 _ _ _ _ _ rfl (load_img hBz)) rfl ⟨HV.out.2.2.2.2.2.2.2.grown hgz HV.out.2.2.2.2.2.2.2.size (fun j e => by cases e; exact Nat.le_refl _), { C with table := fr, length := ln, sigs := .slice Av ls.length cv }, ?_, ⟨H.out.2.2.1.1, ⟨_, _, _, rfl⟩⟩, fun h => absurd HV.out.1 h, fun _ => ⟨⟨hnum.1, hnum.2.1, hnum.2.2.1, hnum.2.2.2.1, ?_, ?_⟩, ?_, ls, ?_, HV.out.2.2.1.trans HV.out.2.1.symm⟩⟩
      · rw [HV.out.1]; rfl
      · rw [H.out.1.bare, H.out.1.from_]; rfl
      · rw [H.out.1.bare, H.out.1.length_]; rfl
      · exact (HV.out.2.2.2.2.2.2.1.keepCells fun k cur fr' _ _ h2 => hkz k cur _ fr' h2 (by decide)).mono (Nat.le_refl _) hszz
      · exact (HV.out.2.2.2.1.keepI hszz hkz).lower hsz6
end Go.Proofs.YtlfajfmkljnodaaDoor
