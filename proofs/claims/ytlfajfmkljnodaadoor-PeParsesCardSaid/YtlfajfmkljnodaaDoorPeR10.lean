/- The reference's Parse: the image is made. -/
import Derived.Test.YtlfajfmkljnodaaDoorPeR9
namespace Go.Proofs.YtlfajfmkljnodaaDoor
open Go.RowKit
set_option maxRecDepth 100000
set_option linter.unusedVariables false
set_option linter.unusedSimpArgs false
noncomputable def rTail9 : Code := tailOf 9 (codeOf Tryd.f16)
noncomputable def rTail8 : Code := tailOf 8 (codeOf Tryd.f16)
theorem wp_store_im {o : Oper} {a : Act} {w : World} {K : Act → World → Prop} {Q : Exit → Act → World → Prop} (x y : Operand) (ho : o.op = .store 28 x y)
    (g : Nat) (C D : IV) (hx : a.eval x = .pointer (some ⟨g, 0, none⟩)) (hy : a.eval y = .agg D.cells) (hB : Bi w g C) (hD : D.One)
    (h : ∀ w', Bi w' g D → w.grownBy w' (some g) → K (a.put o.dst undef) w') : o.wp Tryd.prog a w K Q := by
  unfold Oper.wp execOp
  simp only [ho, hx, hy, Instr.storeAt, Instr.sureAddr, Sem.run_bind, Sem.run_pure, Result.andThen_ok, run_put_img hB D hD]
  exact h _ (setRow_img hB).1 (setRow_img hB).2
theorem K_alloc_im {o : Oper} {a : Act} {w : World} {K : Act → World → Prop} {Q : Exit → Act → World → Prop} (ho : o.op = .alloc 28) (h : K (a.put o.dst (.pointer (some ⟨w.heap.size, 0, none⟩))) (w.alloc (.cells IV.zero.cells 28))) : o.wp Tryd.prog a w K Q := by
  have hr : (Instr.alloc 28 true (.tuple #[])).run Tryd.prog w = .ok (.pointer (some ⟨w.heap.size, 0, none⟩)) (w.alloc (.cells IV.zero.cells 28)) := by
    simp [go_sem]
    try rfl
  unfold Oper.wp
  rw [show (execOp a.eval o).run Tryd.prog w = .ok (.value (.pointer (some ⟨w.heap.size, 0, none⟩))) (w.alloc (.cells IV.zero.cells 28)) from by simp only [execOp, ho]; simp [hr], Oper.upon_value]
  exact h
/-- The image as it is made. -/
def RfIm (plus : Bool) (opt hd : Nat) : IV := {IV.zero with plus := plus, check := opt + 64, headers := hd}
/-- What the slots hold where the image is made. -/
def ImJ (H gx cx opt hd mg : Nat) (plus : Bool) : Nat → Value → World → Prop
  | 0, v, _ => v = .slice (some ⟨gx, 0, none⟩) 4 cx
  | 1, v, _ => v = .pointer (some ⟨gx, 2, none⟩)
  | 2, v, _ => v = .int .i64 (mg : Int)
  | 3, v, _ => v = .bool plus
  | 4, v, _ => v = .int .i64 (opt : Int)
  | 5, v, _ => v = .int .i64 ((opt + 64 : Nat) : Int)
  | 6, v, _ => v = .slice (some ⟨gx, 0, none⟩) 4 cx
  | 7, v, _ => v = .pointer (some ⟨gx, 3, none⟩)
  | 8, v, _ => v = .int .i64 (hd : Int)
  | 9, v, _ => v = .int .u32 (hd : Int)
  | 10, v, _ => v = .agg (RfIm plus opt hd).cells
  | 11, v, w => ∃ p, v = .pointer (some ⟨p, 0, none⟩) ∧ H ≤ p ∧ Bi w p IV.zero
  | _, _, _ => True
theorem ImJ.mono {H gx cx opt hd mg : Nat} {plus : Bool} : ∀ (i : Nat) (v : Value) (w w' : World), Below w.heap.size w w' → ImJ H gx cx opt hd mg plus i v w → ImJ H gx cx opt hd mg plus i v w' := by
  intro i v w w' hb h
  unfold ImJ at h ⊢
  split <;> first | trivial | exact h | (obtain ⟨p, e, h1, h2⟩ := h; exact ⟨p, e, h1, h2.below hb h2.lt⟩)
theorem load_i64 {w : World} {p : Addr} {z : Int} (h : w.cell? p = some (.int .i64 z)) : (loadVar 3 p).run Tryd.prog w = .ok (.int .i64 z) w := load_intR h
set_option maxHeartbeats 4000000 in
theorem ref_tail9 {w : World} {n c zb ib gx cx opt dirs m size hd : Nat} {plus : Bool} {A : Option Addr} {xs : List UInt8} (k : ∀ C : IV, (C.plus = Pe.plus xs ∧ C.check = Pe.opt xs + 64 ∧ C.dir = Pe.dirs xs + 32 ∧ C.headers = Pe.headers xs ∧ C.table = 0 ∧ C.length = 0) → RfH xs n opt dirs m size hd C) (hr : Rd w w.heap.size A n c xs) (hpx : Pe.plus xs = plus) (hdx : opt + (if plus then 112 else 96) = dirs) (w2c : World) (hb2 : Below w.heap.size w w2c)
    (hR : Bi w2c w.heap.size IV.zero) (hZ : Bi w2c zb IV.zero) (hBp : Bi w2c ib (RfIm plus opt hd)) (hne : w.heap.size ≠ zb ∧ w.heap.size ≠ ib ∧ zb ≠ ib ∧ w.heap.size ≤ zb ∧ w.heap.size ≤ ib)
    (hgx : w.heap.size ≤ gx ∧ gx < w2c.heap.size ∧ gx ≠ ib) (p0 : w2c.cell? ⟨gx, 0, none⟩ = some (.int .i64 (m : Int))) (p1 : w2c.cell? ⟨gx, 1, none⟩ = some (.int .i64 (size : Int))) (p3 : w2c.cell? ⟨gx, 3, none⟩ = some (.int .i64 (hd : Int)))
    (u1 u3 u5 u6 u10 u11 u12 u13 u14 u15 u16 u17 u18 u19 u20 u21 u22 u23 u24 u25 u26 u27 u28 u29 u30 u31 u32 u33 u34 u35 u36 u37 u38 u39 u40 u41 u42 u43 u44 u45 u46 u47 u48 u49 u50 u51 u52 u53 u54 u55 u56 u57 u58 u59 u60 u61 u62 u63 u64 u65 u66 u67 u68 u69 u70 u71 u72 u73 u74 u75 u76 u77 u78 u79 u80 u81 u82 u83 u84 u85 u86 u87 u88 u89 u90 u91 u92 u93 u94 u95 u96 u97 u98 u99 u100 u101 u102 u103 u104 u105 u106 u107 u108 u109 u110 u111 u112 u113 u114 u115 u116 u117 u118 u119 u120 u121 u122 u123 u124 u125 u126 u127 u128 u129 u130 u131 u132 u133 u134 u135 u136 u137 u138 u139 u140 u141 u142 u143 u144 u145 u146 u147 u148 u149 u150 u151 u152 u153 u154 u155 u156 u157 u158 u159 u160 u161 u162 u163 u164 u165 u166 u167 u168 u169 u170 u171 u172 u173 u174 u175 u176 u177 u178 u179 u180 u181 u182 u183 u184 u185 u186 u187 u188 u189 u190 u191 u192 u193 u194 u195 u196 u197 u198 u199 u200 u201 u202 u203 u204 u205 u206 u207 u208 u209 u210 u211 u212 u213 u214 u215 u216 u217 u218 u219 u220 u221 u222 u223 u224 u225 u226 u227 u228 u229 u230 u231 u232 u233 u234 u235 u236 u237 u238 u239 u240 u241 u242 u243 u244 u245 u246 u247 u248 u249 u250 u251 u252 u253 u254 u255 u256 u257 u258 u259 : Value) :
    rTail9.wp Tryd.prog (bodyPost Tryd.prog Tryd.f16 (RefOut xs w)) { tmps := (Value.slice A n c :: u1 :: Value.pointer (some ⟨w.heap.size, 0, none⟩) :: u3 :: Value.pointer (some ⟨zb, 0, none⟩) :: u5 :: u6 :: Value.int .i64 (opt : Int) :: Value.slice (some ⟨gx, 0, none⟩) 4 cx :: Value.pointer (some ⟨ib, 0, none⟩) :: u10 :: u11 :: u12 :: u13 :: u14 :: u15 :: u16 :: u17 :: u18 :: u19 :: u20 :: u21 :: u22 :: u23 :: u24 :: u25 :: u26 :: u27 :: u28 :: u29 :: u30 :: u31 :: u32 :: u33 :: u34 :: u35 :: u36 :: u37 :: u38 :: u39 :: u40 :: u41 :: u42 :: u43 :: u44 :: u45 :: u46 :: u47 :: u48 :: u49 :: u50 :: u51 :: u52 :: u53 :: u54 :: u55 :: u56 :: u57 :: u58 :: u59 :: u60 :: u61 :: u62 :: u63 :: u64 :: u65 :: u66 :: u67 :: u68 :: u69 :: u70 :: u71 :: u72 :: u73 :: u74 :: u75 :: u76 :: u77 :: u78 :: u79 :: u80 :: u81 :: u82 :: u83 :: u84 :: u85 :: u86 :: u87 :: u88 :: u89 :: u90 :: u91 :: u92 :: u93 :: u94 :: u95 :: u96 :: u97 :: u98 :: u99 :: u100 :: u101 :: u102 :: u103 :: u104 :: u105 :: u106 :: u107 :: u108 :: u109 :: u110 :: u111 :: u112 :: u113 :: u114 :: u115 :: u116 :: u117 :: u118 :: u119 :: u120 :: u121 :: u122 :: u123 :: u124 :: u125 :: u126 :: u127 :: u128 :: u129 :: u130 :: u131 :: u132 :: u133 :: u134 :: u135 :: u136 :: u137 :: u138 :: u139 :: u140 :: u141 :: u142 :: u143 :: u144 :: u145 :: u146 :: u147 :: u148 :: u149 :: u150 :: u151 :: u152 :: u153 :: u154 :: u155 :: u156 :: u157 :: u158 :: u159 :: u160 :: u161 :: u162 :: u163 :: u164 :: u165 :: u166 :: u167 :: u168 :: u169 :: u170 :: u171 :: u172 :: u173 :: u174 :: u175 :: u176 :: u177 :: u178 :: u179 :: u180 :: u181 :: u182 :: u183 :: u184 :: u185 :: u186 :: u187 :: u188 :: u189 :: u190 :: u191 :: u192 :: u193 :: u194 :: u195 :: u196 :: u197 :: u198 :: u199 :: u200 :: u201 :: u202 :: u203 :: u204 :: u205 :: u206 :: u207 :: u208 :: u209 :: u210 :: u211 :: u212 :: u213 :: u214 :: u215 :: u216 :: u217 :: u218 :: u219 :: u220 :: u221 :: u222 :: u223 :: u224 :: u225 :: u226 :: u227 :: u228 :: u229 :: u230 :: u231 :: u232 :: u233 :: u234 :: u235 :: u236 :: u237 :: u238 :: u239 :: u240 :: u241 :: u242 :: u243 :: u244 :: u245 :: u246 :: u247 :: u248 :: u249 :: u250 :: u251 :: u252 :: u253 :: u254 :: u255 :: u256 :: u257 :: u258 :: u259 :: []).toArray, defers := [] } w2c := by
  generalize hQ : bodyPost Tryd.prog Tryd.f16 (RefOut xs w) = Q
  unfold rTail9 codeOf
  simp only [Tryd.f16, tailOf, Option.getD_some]
  subst hQ
  have kk := k {IV.zero with plus := Pe.plus xs, check := Pe.opt xs + 64, dir := Pe.dirs xs + 32, headers := Pe.headers xs} ⟨rfl, rfl, rfl, rfl, rfl, rfl⟩
  have hdirl := kk.dirl
  have hoptl := kk.optl
  have hhdl := kk.hdl
  have k0 : w2c.cell? ⟨ib, 0, none⟩ = some (.bool plus) := hBp.cell 0
  have H := Lib.hid (And.intro k (And.intro hr (And.intro hpx (And.intro hdx (And.intro kk.opt_ (And.intro kk.headers_ kk.dirs_))))))
  have HC := Lib.hid (And.intro hBp (And.intro hR (And.intro hZ (And.intro hb2 (And.intro p0 (And.intro p1 (And.intro p3 hgx.2.1)))))))
  have hgx1 := hgx.1
  have hgx2 := hgx.2.2
  clear k hr hpx hdx kk hBp hR hZ hb2 p0 p1 p3 hgx
  refine wp_seq_k fun K hK => ?_
  go_cut [10] from 17 (fun s10 wx => s10 = .int .i64 ((opt : Int) + 96) ∧ wx = w2c)
  case first =>
    go_wp2_with fail
    go_meet
    exact ⟨rfl, rfl⟩
  obtain ⟨rfl, rfl⟩ := hcut
  refine hK _ _ ?_
  clear hK K
  refine wp_seq_k fun K hK => ?_
  obtain ⟨w3c, hw3c⟩ : ∃ x, wc = x := ⟨_, rfl⟩
  rw [hw3c] at HC k0 ⊢
  clear hw3c wc
  go_cut [10] from 17 (fun s10 wx => s10 = .int .i64 (dirs : Int) ∧ wx = w3c)
  case first =>
    have hx := H.out.2.2.2.1
    cases plus
    · have hx' : (opt : Int) + 96 = (dirs : Int) := by simp at hx; omega
      clear hx
      go_wp2_with fail
      go_meet
      exact ⟨congrArg _ hx', rfl⟩
    · have hx' : (opt : Int) + 112 = (dirs : Int) := by simp at hx; omega
      clear hx
      go_wp2_with fail
      go_meet
      exact ⟨by first | rfl | exact congrArg _ hx', rfl⟩
  obtain ⟨rfl, rfl⟩ := hcut
  refine hK _ _ ?_
  clear hK K
  refine wp_seq_k fun K hK => ?_
  obtain ⟨w4c, hw4c⟩ : ∃ x, wc = x := ⟨_, rfl⟩
  rw [hw4c] at HC k0 ⊢
  clear hw4c wc
  have l2 : w4c.cell? ⟨ib, 2, none⟩ = some (.int .i64 0) := HC.out.1.cell 2
  have g2 := HC.out.1.frozen 2
  obtain ⟨w5, hw5⟩ : ∃ x, w4c.setCell ⟨ib, 2, none⟩ (.int .i64 ((dirs : Int) + 32)) = x := ⟨_, rfl⟩
  go_cut [] from 17 (fun wx => wx = w5)
  case first =>
    go_wp2_with fail
    go_meet
    first | rfl | exact hw5
  subst hcut
  refine hK _ _ ?_
  clear hK K
  have hI5 : Bi wc ib { IV.zero with plus := plus, check := opt + 64, headers := hd, dir := dirs + 32 } := by
    rw [← hw5]
    have h := HC.out.1.set_ 2 (.int .i64 ((dirs : Int) + 32))
    exact h
  have hR5 : Bi wc w.heap.size IV.zero := by rw [← hw5]; exact HC.out.2.1.far (p := ⟨ib, 2, none⟩) hne.2.1 _
  have hZ5 : Bi wc zb IV.zero := by rw [← hw5]; exact HC.out.2.2.1.far (p := ⟨ib, 2, none⟩) hne.2.2.1 _
  have sz5 : wc.heap.size = w4c.heap.size := by rw [← hw5]; simp
  have hb5 : Below w.heap.size w wc := by rw [← hw5]; exact HC.out.2.2.2.1.grown (grownBy_set w4c ⟨ib, 2, none⟩ _) (by have := HC.out.2.2.2.1.size; simpa using this) (fun k e => by cases e; exact hne.2.2.2.2)
  have hbl : ∀ j v, w4c.cell? ⟨gx, j, none⟩ = some v → wc.cell? ⟨gx, j, none⟩ = some v := fun j v hv => by rw [← hw5]; exact (World.cell?_of_block (a := ⟨gx, j, none⟩) (Below.heap_setCell _ _ _ gx hgx2)).trans hv
  exact ref_tail12 (C := { IV.zero with plus := plus, check := opt + 64, headers := hd, dir := dirs + 32 }) (H.out.1 _ ⟨H.out.2.2.1.symm, by rw [H.out.2.2.2.2.1], by rw [H.out.2.2.2.2.2.2], H.out.2.2.2.2.2.1.symm, rfl, rfl⟩) H.out.2.1 rfl rfl _ hb5 hR5 hZ5 hI5 hne ⟨hgx1, by rw [sz5]; exact HC.out.2.2.2.2.2.2.2, hgx2⟩ (hbl _ _ HC.out.2.2.2.2.1) (hbl _ _ HC.out.2.2.2.2.2.1) (hbl _ _ HC.out.2.2.2.2.2.2.1) _ _ _ _ _ _ _ _ _ _ _ _ _ _ _ _ _ _ _ _ _ _ _ _ _ _ _ _ _ _ _ _ _ _ _ _ _ _ _ _ _ _ _ _ _ _ _ _ _ _ _ _ _ _ _ _ _ _ _ _ _ _ _ _ _ _ _ _ _ _ _ _ _ _ _ _ _ _ _ _ _ _ _ _ _ _ _ _ _ _ _ _ _ _ _ _ _ _ _ _ _ _ _ _ _ _ _ _ _ _ _ _ _ _ _ _ _ _ _ _ _ _ _ _ _ _ _ _ _ _ _ _ _ _ _ _ _ _ _ _ _ _ _ _ _ _ _ _ _ _ _ _ _ _ _ _ _ _ _ _ _ _ _ _ _ _ _ _ _ _ _ _ _ _ _ _ _ _ _ _ _ _ _ _ _ _ _ _ _ _ _ _ _ _ _ _ _ _ _ _ _ _ _ _ _ _ _ _ _ _ _ _ _ _ _ _ _ _ _ _ _ _ _ _ _ _ _ _ _ _ _ _ _ _ _ _ _ _ _ _ _ _ _ _ _ _ _ _ _ _ _ _ _
set_option maxHeartbeats 4000000 in
theorem ref_tail8 {w : World} {n c zb gx cx opt dirs m size hd mg : Nat} {A : Option Addr} {xs : List UInt8} (k : ∀ C : IV, (C.plus = Pe.plus xs ∧ C.check = Pe.opt xs + 64 ∧ C.dir = Pe.dirs xs + 32 ∧ C.headers = Pe.headers xs ∧ C.table = 0 ∧ C.length = 0) → RfH xs n opt dirs m size hd C) (hmg : Pe.magic xs = mg) (hr : Rd w w.heap.size A n c xs) (w2 : World) (hb2 : Below w.heap.size w w2)
    (hR : Bi w2 w.heap.size IV.zero) (hZ : Bi w2 zb IV.zero) (hne : w.heap.size ≠ zb ∧ w.heap.size ≤ zb)
    (hgx : w.heap.size ≤ gx ∧ gx < w2.heap.size) (p0 : w2.cell? ⟨gx, 0, none⟩ = some (.int .i64 (m : Int))) (p1 : w2.cell? ⟨gx, 1, none⟩ = some (.int .i64 (size : Int))) (p2 : w2.cell? ⟨gx, 2, none⟩ = some (.int .i64 (mg : Int))) (p3 : w2.cell? ⟨gx, 3, none⟩ = some (.int .i64 (hd : Int)))
    (u1 u3 u5 u6 u9 u10 u11 u12 u13 u14 u15 u16 u17 u18 u19 u20 u21 u22 u23 u24 u25 u26 u27 u28 u29 u30 u31 u32 u33 u34 u35 u36 u37 u38 u39 u40 u41 u42 u43 u44 u45 u46 u47 u48 u49 u50 u51 u52 u53 u54 u55 u56 u57 u58 u59 u60 u61 u62 u63 u64 u65 u66 u67 u68 u69 u70 u71 u72 u73 u74 u75 u76 u77 u78 u79 u80 u81 u82 u83 u84 u85 u86 u87 u88 u89 u90 u91 u92 u93 u94 u95 u96 u97 u98 u99 u100 u101 u102 u103 u104 u105 u106 u107 u108 u109 u110 u111 u112 u113 u114 u115 u116 u117 u118 u119 u120 u121 u122 u123 u124 u125 u126 u127 u128 u129 u130 u131 u132 u133 u134 u135 u136 u137 u138 u139 u140 u141 u142 u143 u144 u145 u146 u147 u148 u149 u150 u151 u152 u153 u154 u155 u156 u157 u158 u159 u160 u161 u162 u163 u164 u165 u166 u167 u168 u169 u170 u171 u172 u173 u174 u175 u176 u177 u178 u179 u180 u181 u182 u183 u184 u185 u186 u187 u188 u189 u190 u191 u192 u193 u194 u195 u196 u197 u198 u199 u200 u201 u202 u203 u204 u205 u206 u207 u208 u209 u210 u211 u212 u213 u214 u215 u216 u217 u218 u219 u220 u221 u222 u223 u224 u225 u226 u227 u228 u229 u230 u231 u232 u233 u234 u235 u236 u237 u238 u239 u240 u241 u242 u243 u244 u245 u246 u247 u248 u249 u250 u251 u252 u253 u254 u255 u256 u257 u258 u259 : Value) :
    rTail8.wp Tryd.prog (bodyPost Tryd.prog Tryd.f16 (RefOut xs w)) { tmps := (Value.slice A n c :: u1 :: Value.pointer (some ⟨w.heap.size, 0, none⟩) :: u3 :: Value.pointer (some ⟨zb, 0, none⟩) :: u5 :: u6 :: Value.int .i64 (opt : Int) :: Value.slice (some ⟨gx, 0, none⟩) 4 cx :: u9 :: u10 :: u11 :: u12 :: u13 :: u14 :: u15 :: u16 :: u17 :: u18 :: u19 :: u20 :: u21 :: u22 :: u23 :: u24 :: u25 :: u26 :: u27 :: u28 :: u29 :: u30 :: u31 :: u32 :: u33 :: u34 :: u35 :: u36 :: u37 :: u38 :: u39 :: u40 :: u41 :: u42 :: u43 :: u44 :: u45 :: u46 :: u47 :: u48 :: u49 :: u50 :: u51 :: u52 :: u53 :: u54 :: u55 :: u56 :: u57 :: u58 :: u59 :: u60 :: u61 :: u62 :: u63 :: u64 :: u65 :: u66 :: u67 :: u68 :: u69 :: u70 :: u71 :: u72 :: u73 :: u74 :: u75 :: u76 :: u77 :: u78 :: u79 :: u80 :: u81 :: u82 :: u83 :: u84 :: u85 :: u86 :: u87 :: u88 :: u89 :: u90 :: u91 :: u92 :: u93 :: u94 :: u95 :: u96 :: u97 :: u98 :: u99 :: u100 :: u101 :: u102 :: u103 :: u104 :: u105 :: u106 :: u107 :: u108 :: u109 :: u110 :: u111 :: u112 :: u113 :: u114 :: u115 :: u116 :: u117 :: u118 :: u119 :: u120 :: u121 :: u122 :: u123 :: u124 :: u125 :: u126 :: u127 :: u128 :: u129 :: u130 :: u131 :: u132 :: u133 :: u134 :: u135 :: u136 :: u137 :: u138 :: u139 :: u140 :: u141 :: u142 :: u143 :: u144 :: u145 :: u146 :: u147 :: u148 :: u149 :: u150 :: u151 :: u152 :: u153 :: u154 :: u155 :: u156 :: u157 :: u158 :: u159 :: u160 :: u161 :: u162 :: u163 :: u164 :: u165 :: u166 :: u167 :: u168 :: u169 :: u170 :: u171 :: u172 :: u173 :: u174 :: u175 :: u176 :: u177 :: u178 :: u179 :: u180 :: u181 :: u182 :: u183 :: u184 :: u185 :: u186 :: u187 :: u188 :: u189 :: u190 :: u191 :: u192 :: u193 :: u194 :: u195 :: u196 :: u197 :: u198 :: u199 :: u200 :: u201 :: u202 :: u203 :: u204 :: u205 :: u206 :: u207 :: u208 :: u209 :: u210 :: u211 :: u212 :: u213 :: u214 :: u215 :: u216 :: u217 :: u218 :: u219 :: u220 :: u221 :: u222 :: u223 :: u224 :: u225 :: u226 :: u227 :: u228 :: u229 :: u230 :: u231 :: u232 :: u233 :: u234 :: u235 :: u236 :: u237 :: u238 :: u239 :: u240 :: u241 :: u242 :: u243 :: u244 :: u245 :: u246 :: u247 :: u248 :: u249 :: u250 :: u251 :: u252 :: u253 :: u254 :: u255 :: u256 :: u257 :: u258 :: u259 :: []).toArray, defers := [] } w2 := by
  generalize hQ : bodyPost Tryd.prog Tryd.f16 (RefOut xs w) = Q
  unfold rTail8 codeOf
  simp only [Tryd.f16, tailOf, Option.getD_some]
  subst hQ
  have hrl := hR.lt
  have hzl := hZ.lt
  have hsz2 := hb2.size
  have kk := k {IV.zero with plus := Pe.plus xs, check := Pe.opt xs + 64, dir := Pe.dirs xs + 32, headers := Pe.headers xs} ⟨rfl, rfl, rfl, rfl, rfl, rfl⟩
  have hoptl := kk.optl
  have hdirl := kk.dirl
  have hhdl := kk.hdl
  obtain ⟨plus, hplus⟩ : ∃ b, ((mg : Int) == 523) = b := ⟨_, rfl⟩
  have hpx : Pe.plus xs = plus := by
    rw [← hplus, show (523 : Int) = ((523 : Nat) : Int) from rfl, int_beq]
    unfold Pe.plus
    rw [hmg]
  have hdx : opt + (if plus then 112 else 96) = dirs := by rw [← kk.dirs_, ← kk.opt_]; unfold Pe.dirs; rw [hpx]
  have hox := kk.opt_
  have hhx := kk.headers_
  have hwh : IntKind.u32.wrap (hd : Int) = (hd : Int) := by simp only [IntKind.wrap, IntKind.bits, IntKind.signed]; simp; omega
  have hcell : ∀ W, Below w2.heap.size w2 W → W.cell? ⟨gx, 0, none⟩ = some (.int .i64 (m : Int)) ∧ W.cell? ⟨gx, 1, none⟩ = some (.int .i64 (size : Int)) ∧ W.cell? ⟨gx, 2, none⟩ = some (.int .i64 (mg : Int)) ∧ W.cell? ⟨gx, 3, none⟩ = some (.int .i64 (hd : Int)) := fun W hW =>
    ⟨(hW.cell (p := ⟨gx, 0, none⟩) hgx.2).trans p0, (hW.cell (p := ⟨gx, 1, none⟩) hgx.2).trans p1, (hW.cell (p := ⟨gx, 2, none⟩) hgx.2).trans p2, (hW.cell (p := ⟨gx, 3, none⟩) hgx.2).trans p3⟩
  have H := Lib.hid (And.intro k (And.intro hr (And.intro hb2 (And.intro hR (And.intro hZ (And.intro hcell (And.intro hpx (And.intro hdx (And.intro hox hhx)))))))))
  have HPL := Lib.hid hplus
  have HKD := Lib.hid kk.dirs_
  clear k hr hb2 hR hZ hcell hpx hdx hox hhx kk hmg p0 p1 p2 p3 hplus
  refine wp_seq_k fun K hK => ?_
  go_cut [9] from 17 (fun s9 wx => ∃ p, s9 = Value.pointer (some ⟨p, 0, none⟩) ∧ w2.heap.size ≤ p ∧ Bi wx p (RfIm plus opt hd) ∧ Below w2.heap.size w2 wx)
  case first =>
    refine wp_region_last 12 (ImJ w2.heap.size gx cx opt hd mg plus) (Below w2.heap.size w2) (fun x y => Below x.heap.size x y) rfl ImJ.mono (fun w w' h1 h2 => h1.trans (h2.mono h1.size)) (by show dstsOk _ 260 = true; decide +kernel) (by decide +kernel) (by decide +kernel) (by decide +kernel) (Below.refl _ _).drew ⟨?_, ?_, ?_, ?_, ?_, ?_, ?_, ?_, ?_, ?_, ?_, ?_, trivial⟩ ?_
    · intro a' W hfr hG hdep; refine J_of (by simp) (fun _ => rfl) ?_; have d := hfr 8 (by decide +kernel); exact F_move rfl d trivial (Below.refl _ _)
    · intro a' W hfr hG hdep; refine J_of (by simp) (fun _ => rfl) ?_; have d : a'.eval (.tmp 91) = _ := hdep 0 (by decide +kernel); refine F_val ?_ trivial (Below.refl _ _); simp only [execOp, d]; simp [go_sem, Act.eval]
    · intro a' W hfr hG hdep; refine J_of (by simp) (fun _ => rfl) ?_; have d : a'.eval (.tmp 92) = _ := hdep 1 (by decide +kernel); exact F_load rfl d (load_i64 (H.out.2.2.2.2.2.1 W hG).2.2.1) trivial (Below.refl _ _)
    · intro a' W hfr hG hdep; refine J_of (by simp) (fun _ => rfl) ?_; have d : a'.eval (.tmp 93) = .int .i64 (mg : Int) := hdep 2 (by decide +kernel); refine F_val ?_ trivial (Below.refl _ _); have hpl := HPL.out; simp only [execOp, d]; simp [go_sem, Act.eval, hpl]
    · intro a' W hfr hG hdep; refine J_of (by simp) (fun _ => rfl) ?_; have d := hfr 7 (by decide +kernel); exact F_move rfl d trivial (Below.refl _ _)
    · intro a' W hfr hG hdep; refine J_of (by simp) (fun _ => rfl) ?_; have d : a'.eval (.tmp 95) = .int .i64 (opt : Int) := hdep 4 (by decide +kernel); refine F_val ?_ trivial (Below.refl _ _); simp only [execOp, d]; simp [go_sem, Act.eval]; rw [IntKind.wrap_i64]; omega
    · intro a' W hfr hG hdep; refine J_of (by simp) (fun _ => rfl) ?_; have d := hfr 8 (by decide +kernel); exact F_move rfl d trivial (Below.refl _ _)
    · intro a' W hfr hG hdep; refine J_of (by simp) (fun _ => rfl) ?_; have d : a'.eval (.tmp 97) = _ := hdep 6 (by decide +kernel); refine F_val ?_ trivial (Below.refl _ _); simp only [execOp, d]; simp [go_sem, Act.eval]
    · intro a' W hfr hG hdep; refine J_of (by simp) (fun _ => rfl) ?_; have d : a'.eval (.tmp 98) = _ := hdep 7 (by decide +kernel); exact F_load rfl d (load_i64 (H.out.2.2.2.2.2.1 W hG).2.2.2) trivial (Below.refl _ _)
    · intro a' W hfr hG hdep; refine J_of (by simp) (fun _ => rfl) ?_; have d : a'.eval (.tmp 99) = .int .i64 (hd : Int) := hdep 8 (by decide +kernel); refine F_val ?_ trivial (Below.refl _ _); simp only [execOp, d]; simp [go_sem, Act.eval, hwh]
    · intro a' W hfr hG hdep; refine J_of (by simp) (fun _ => rfl) ?_; have b0 : a'.eval (.tmp 94) = .bool plus := hdep 3 (by decide +kernel); have b1 : a'.eval (.tmp 96) = .int .i64 ((opt + 64 : Nat) : Int) := hdep 5 (by decide +kernel); have b2 : a'.eval (.tmp 100) = .int .u32 (hd : Int) := hdep 9 (by decide +kernel); refine F_val ?_ trivial (Below.refl _ _); simp [Act.eval] at b0 b1 b2; simp only [execOp]; simp [go_sem, Act.eval, b0, b1, b2]; rfl
    · intro a' W hfr hG hdep; exact K_alloc_im rfl ⟨_, rfl, fun h => absurd h (by simp), ⟨W.heap.size, rfl, hG.size, Blk.new W _ _⟩, (Below.refl _ _).alloc (Nat.le_refl _) _⟩
    · intro o ho a' W hd' hsz hfr hG hJ
      have e1 : o.op = .store 28 (.tmp 9) (.tmp 101) ∧ o.dst = none := by cases ho; exact ⟨rfl, rfl⟩
      clear ho
      obtain ⟨p, hp, hpl, hpz⟩ : ∃ p, a'.eval (.tmp 9) = .pointer (some ⟨p, 0, none⟩) ∧ w2.heap.size ≤ p ∧ Bi W p IV.zero := hJ 11 (by decide)
      have hv : a'.eval (.tmp 101) = .agg (RfIm plus opt hd).cells := hJ 10 (by decide)
      refine wp_store_im _ _ e1.1 p IV.zero _ hp hv hpz ⟨⟨_, _, _, rfl⟩, ⟨_, _, _, rfl⟩⟩ ?_
      intro w' hB' hg'
      rw [e1.2]
      have hfin : Below w2.heap.size w2 w' := hG.grown hg' hG.size (fun j e => by injection e with e; omega)
      have HF := Lib.hid (And.intro hpl (And.intro hB' hfin))
      obtain ⟨vs, hvs, e⟩ := act_of_some (by show dstsOk _ 260 = true; decide +kernel) hd' hsz hfr
      have h11 : vs 11 = .pointer (some ⟨p, 0, none⟩) := (hvs 11).symm.trans hp
      clear hJ hfr hd' hsz hG hvs hp hv hpz hB' hg' hfin e1
      have hrg : List.range 13 = [0, 1, 2, 3, 4, 5, 6, 7, 8, 9, 10, 11, 12] := rfl
      simp only [layAll, List.map_cons, List.map_nil, List.size_toArray, List.length_cons, List.length_nil, Nat.reduceAdd, hrg, List.zip_cons_cons, List.zip_nil_left, List.foldl_cons, List.foldl_nil, Act.put, List.setIfInBounds_toArray, List.set_cons_zero, List.set_cons_succ] at e
      subst e
      clear hrg
      apply_assumption
      go_meet
      exact ⟨p, h11, HF.out.1, HF.out.2.1, HF.out.2.2⟩
  obtain ⟨ib, rfl, hib, hBp, hb⟩ := hcut
  refine hK _ _ ?_
  clear hK K
  have hRc := H.out.2.2.2.1.below hb hrl
  have hZc := H.out.2.2.2.2.1.below hb hzl
  have hbc := H.out.2.2.1.trans (hb.mono hsz2)
  have hcl := H.out.2.2.2.2.2.1 wc hb
  have hszc := hb.size
  exact ref_tail9 H.out.1 H.out.2.1 H.out.2.2.2.2.2.2.1 H.out.2.2.2.2.2.2.2.1 _ hbc hRc hZc hBp ⟨hne.1, by omega, by omega, hne.2, by omega⟩ ⟨hgx.1, by omega, by omega⟩ hcl.1 hcl.2.1 hcl.2.2.2 _ _ _ _ _ _ _ _ _ _ _ _ _ _ _ _ _ _ _ _ _ _ _ _ _ _ _ _ _ _ _ _ _ _ _ _ _ _ _ _ _ _ _ _ _ _ _ _ _ _ _ _ _ _ _ _ _ _ _ _ _ _ _ _ _ _ _ _ _ _ _ _ _ _ _ _ _ _ _ _ _ _ _ _ _ _ _ _ _ _ _ _ _ _ _ _ _ _ _ _ _ _ _ _ _ _ _ _ _ _ _ _ _ _ _ _ _ _ _ _ _ _ _ _ _ _ _ _ _ _ _ _ _ _ _ _ _ _ _ _ _ _ _ _ _ _ _ _ _ _ _ _ _ _ _ _ _ _ _ _ _ _ _ _ _ _ _ _ _ _ _ _ _ _ _ _ _ _ _ _ _ _ _ _ _ _ _ _ _ _ _ _ _ _ _ _ _ _ _ _ _ _ _ _ _ _ _ _ _ _ _ _ _ _ _ _ _ _ _ _ _ _ _ _ _ _ _ _ _ _ _ _ _ _ _ _ _ _ _ _ _ _ _ _ _ _ _ _ _ _ _ _ _ _
end Go.Proofs.YtlfajfmkljnodaaDoor
