/- The reference's Parse: the directories. -/
import Derived.Test.YtlfajfmkljnodaaDoorPeR8
namespace Go.Proofs.YtlfajfmkljnodaaDoor
open Go.RowKit
set_option maxRecDepth 100000
set_option linter.unusedVariables false
set_option linter.unusedSimpArgs false
noncomputable def rTail12 : Code := tailOf 12 (codeOf Tryd.f16)
/-- What the reference's Parse knows ahead of the directories. -/
structure RfH (xs : List UInt8) (n opt dirs m size hd : Nat) (C : IV) : Prop where
  len : xs.length = n
  n_ : n ≤ 16777216
  first_ : Pe.first xs = true
  second_ : Pe.second xs = true
  io : Pe.inb xs (opt + 60) 4 = true
  opt_ : Pe.opt xs = opt
  dirs_ : Pe.dirs xs = dirs
  many_ : Pe.many xs = m
  size_ : Pe.size xs = size
  headers_ : Pe.headers xs = hd
  nums : C.plus = Pe.plus xs ∧ C.check = Pe.opt xs + 64 ∧ C.dir = Pe.dirs xs + 32 ∧ C.headers = Pe.headers xs ∧ C.table = 0 ∧ C.length = 0
  optl : opt ≤ 4294967400
  dirl : opt + 96 ≤ dirs ∧ dirs ≤ opt + 112
  ml : m ≤ 96
  sizel : size < 65536
  hdl : hd < 4294967296
theorem RfH.head {xs : List UInt8} {n opt dirs m size hd : Nat} {C : IV} (k : RfH xs n opt dirs m size hd C) : Pe.head xs = (Pe.inb xs (dirs - 4) 4 && (decide (5 ≤ Pe.at_ xs (dirs - 4) 4) && (size == dirs - opt + 8 * Pe.at_ xs (dirs - 4) 4) && decide (hd ≤ n) && decide (opt + size + 40 * m ≤ hd))) := by
  unfold Pe.head Pe.third Pe.kdirs Pe.table
  rw [k.first_, k.second_, k.opt_, k.dirs_, k.many_, k.size_, k.headers_, k.len, k.io]
  simp only [Bool.true_and, Bool.and_true]
theorem RfH.all {xs : List UInt8} {n opt dirs m size hd : Nat} {C : IV} (k : RfH xs n opt dirs m size hd C) (h : Pe.head xs = true) : (([(dirs - 4, 4), (dirs + 32, 4), (dirs + 36, 4)] : List (Nat × Nat)).all fun p => Pe.inb xs p.1 p.2) = true := by
  rw [k.head] at h
  simp only [Bool.and_eq_true, decide_eq_true_eq, beq_iff_eq] at h
  have h1 := k.dirl
  have h2 := k.len
  simp only [List.all_cons, List.all_nil, Bool.and_true, Bool.and_eq_true, Pe.inb, decide_eq_true_eq]
  omega
theorem Pe.err9 {xs : List UInt8} (hn : xs.length ≤ 16777216) (h : Pe.head xs = false) : Pe.err xs = 9 := by
  have hf : Pe.fine xs = false := by unfold Pe.fine; rw [h]; rfl
  unfold Pe.err; rw [if_neg (by omega), hf]; rfl
set_option maxHeartbeats 4000000 in
theorem ref_tail12 {w : World} {n c zb ib gx cx opt dirs m size hd : Nat} {A : Option Addr} {xs : List UInt8} {C : IV} (k : RfH xs n opt dirs m size hd C) (hr : Rd w w.heap.size A n c xs) (hsc : C.secs = .slice none 0 0) (hsg : C.sigs = .slice none 0 0) (w3 : World) (hb3 : Below w.heap.size w w3)
    (hR : Bi w3 w.heap.size IV.zero) (hZ : Bi w3 zb IV.zero) (hI : Bi w3 ib C) (hne : w.heap.size ≠ zb ∧ w.heap.size ≠ ib ∧ zb ≠ ib ∧ w.heap.size ≤ zb ∧ w.heap.size ≤ ib)
    (hgx : w.heap.size ≤ gx ∧ gx < w3.heap.size ∧ gx ≠ ib) (p0 : w3.cell? ⟨gx, 0, none⟩ = some (.int .i64 (m : Int))) (p1 : w3.cell? ⟨gx, 1, none⟩ = some (.int .i64 (size : Int))) (p3 : w3.cell? ⟨gx, 3, none⟩ = some (.int .i64 (hd : Int)))
    (u1 u3 u5 u6 u11 u12 u13 u14 u15 u16 u17 u18 u19 u20 u21 u22 u23 u24 u25 u26 u27 u28 u29 u30 u31 u32 u33 u34 u35 u36 u37 u38 u39 u40 u41 u42 u43 u44 u45 u46 u47 u48 u49 u50 u51 u52 u53 u54 u55 u56 u57 u58 u59 u60 u61 u62 u63 u64 u65 u66 u67 u68 u69 u70 u71 u72 u73 u74 u75 u76 u77 u78 u79 u80 u81 u82 u83 u84 u85 u86 u87 u88 u89 u90 u91 u92 u93 u94 u95 u96 u97 u98 u99 u100 u101 u102 u103 u104 u105 u106 u107 u108 u109 u110 u111 u112 u113 u114 u115 u116 u117 u118 u119 u120 u121 u122 u123 u124 u125 u126 u127 u128 u129 u130 u131 u132 u133 u134 u135 u136 u137 u138 u139 u140 u141 u142 u143 u144 u145 u146 u147 u148 u149 u150 u151 u152 u153 u154 u155 u156 u157 u158 u159 u160 u161 u162 u163 u164 u165 u166 u167 u168 u169 u170 u171 u172 u173 u174 u175 u176 u177 u178 u179 u180 u181 u182 u183 u184 u185 u186 u187 u188 u189 u190 u191 u192 u193 u194 u195 u196 u197 u198 u199 u200 u201 u202 u203 u204 u205 u206 u207 u208 u209 u210 u211 u212 u213 u214 u215 u216 u217 u218 u219 u220 u221 u222 u223 u224 u225 u226 u227 u228 u229 u230 u231 u232 u233 u234 u235 u236 u237 u238 u239 u240 u241 u242 u243 u244 u245 u246 u247 u248 u249 u250 u251 u252 u253 u254 u255 u256 u257 u258 u259 : Value) :
    rTail12.wp Tryd.prog (bodyPost Tryd.prog Tryd.f16 (RefOut xs w)) { tmps := (Value.slice A n c :: u1 :: Value.pointer (some ⟨w.heap.size, 0, none⟩) :: u3 :: Value.pointer (some ⟨zb, 0, none⟩) :: u5 :: u6 :: Value.int .i64 (opt : Int) :: Value.slice (some ⟨gx, 0, none⟩) 4 cx :: Value.pointer (some ⟨ib, 0, none⟩) :: Value.int .i64 (dirs : Int) :: u11 :: u12 :: u13 :: u14 :: u15 :: u16 :: u17 :: u18 :: u19 :: u20 :: u21 :: u22 :: u23 :: u24 :: u25 :: u26 :: u27 :: u28 :: u29 :: u30 :: u31 :: u32 :: u33 :: u34 :: u35 :: u36 :: u37 :: u38 :: u39 :: u40 :: u41 :: u42 :: u43 :: u44 :: u45 :: u46 :: u47 :: u48 :: u49 :: u50 :: u51 :: u52 :: u53 :: u54 :: u55 :: u56 :: u57 :: u58 :: u59 :: u60 :: u61 :: u62 :: u63 :: u64 :: u65 :: u66 :: u67 :: u68 :: u69 :: u70 :: u71 :: u72 :: u73 :: u74 :: u75 :: u76 :: u77 :: u78 :: u79 :: u80 :: u81 :: u82 :: u83 :: u84 :: u85 :: u86 :: u87 :: u88 :: u89 :: u90 :: u91 :: u92 :: u93 :: u94 :: u95 :: u96 :: u97 :: u98 :: u99 :: u100 :: u101 :: u102 :: u103 :: u104 :: u105 :: u106 :: u107 :: u108 :: u109 :: u110 :: u111 :: u112 :: u113 :: u114 :: u115 :: u116 :: u117 :: u118 :: u119 :: u120 :: u121 :: u122 :: u123 :: u124 :: u125 :: u126 :: u127 :: u128 :: u129 :: u130 :: u131 :: u132 :: u133 :: u134 :: u135 :: u136 :: u137 :: u138 :: u139 :: u140 :: u141 :: u142 :: u143 :: u144 :: u145 :: u146 :: u147 :: u148 :: u149 :: u150 :: u151 :: u152 :: u153 :: u154 :: u155 :: u156 :: u157 :: u158 :: u159 :: u160 :: u161 :: u162 :: u163 :: u164 :: u165 :: u166 :: u167 :: u168 :: u169 :: u170 :: u171 :: u172 :: u173 :: u174 :: u175 :: u176 :: u177 :: u178 :: u179 :: u180 :: u181 :: u182 :: u183 :: u184 :: u185 :: u186 :: u187 :: u188 :: u189 :: u190 :: u191 :: u192 :: u193 :: u194 :: u195 :: u196 :: u197 :: u198 :: u199 :: u200 :: u201 :: u202 :: u203 :: u204 :: u205 :: u206 :: u207 :: u208 :: u209 :: u210 :: u211 :: u212 :: u213 :: u214 :: u215 :: u216 :: u217 :: u218 :: u219 :: u220 :: u221 :: u222 :: u223 :: u224 :: u225 :: u226 :: u227 :: u228 :: u229 :: u230 :: u231 :: u232 :: u233 :: u234 :: u235 :: u236 :: u237 :: u238 :: u239 :: u240 :: u241 :: u242 :: u243 :: u244 :: u245 :: u246 :: u247 :: u248 :: u249 :: u250 :: u251 :: u252 :: u253 :: u254 :: u255 :: u256 :: u257 :: u258 :: u259 :: []).toArray, defers := [] } w3 := by
  generalize hQ : bodyPost Tryd.prog Tryd.f16 (RefOut xs w) = Q
  unfold rTail12 codeOf
  simp only [Tryd.f16, tailOf, Option.getD_some]
  subst hQ
  have hrl := hR.lt
  have hzl := hZ.lt
  have hil := hI.lt
  have hsz3 := hb3.size
  have hn := k.n_
  have hdirl := k.dirl
  have hoptl := k.optl
  have hml := k.ml
  have hsizel := k.sizel
  have hhdl := k.hdl
  have d2 : w3.cell? ⟨ib, 2, none⟩ = some (.int .i64 ((dirs : Int) + 32)) := (hI.cell 2).trans (by simp only [IV.cells]; rw [k.nums.2.2.1, k.dirs_]; rfl)
  have hhead := k.head
  have hall := k.all
  obtain ⟨kd, hkd⟩ : ∃ N, Pe.at_ xs (dirs - 4) 4 = N := ⟨_, rfl⟩
  have hkdl : kd < 4294967296 := by rw [← hkd]; exact Pe.at_lt4 _ _
  rw [hkd] at hhead
  have hfr : Pe.from_ xs = Pe.at_ xs (dirs + 32) 4 := by unfold Pe.from_; rw [k.dirs_]
  have hln : Pe.length xs = Pe.at_ xs (dirs + 36) 4 := by unfold Pe.length; rw [k.dirs_]
  obtain ⟨fr, hfr'⟩ : ∃ N, Pe.at_ xs (dirs + 32) 4 = N := ⟨_, rfl⟩
  obtain ⟨ln, hln'⟩ : ∃ N, Pe.at_ xs (dirs + 36) 4 = N := ⟨_, rfl⟩
  have hfrl : fr < 4294967296 := by rw [← hfr']; exact Pe.at_lt4 _ _
  have hlnl : ln < 4294967296 := by rw [← hln']; exact Pe.at_lt4 _ _
  rw [hfr'] at hfr
  rw [hln'] at hln
  have hmap : ([(dirs - 4, 4), (dirs + 32, 4), (dirs + 36, 4)].map fun p : Nat × Nat => Pe.at_ xs p.1 p.2).map natV = [.int .i64 (kd : Int), .int .i64 (fr : Int), .int .i64 (ln : Int)] := by
    simp only [List.map_cons, List.map_nil, hkd, hfr', hln', natV]
  obtain ⟨W1, hW1⟩ : ∃ W1, w3.alloc (.cells #[.int .i64 ((dirs : Int) - 4), .int .i64 4, .int .i64 ((dirs : Int) + 32), .int .i64 4, .int .i64 ((dirs : Int) + 32 + 4), .int .i64 4] 67) = W1 := ⟨_, rfl⟩
  have hps : ([(dirs - 4, 4), (dirs + 32, 4), (dirs + 36, 4)].flatMap pairC).toArray = #[.int .i64 ((dirs : Int) - 4), .int .i64 4, .int .i64 ((dirs : Int) + 32), .int .i64 4, .int .i64 ((dirs : Int) + 32 + 4), .int .i64 4] := by
    simp [pairC]; omega
  have hB1 : Blk W1 w3.heap.size 67 ([(dirs - 4, 4), (dirs + 32, 4), (dirs + 36, 4)].flatMap pairC).toArray := by
    rw [← hW1, hps]
    exact Blk.new w3 _ _
  have hb1 : Below w.heap.size w W1 := by rw [← hW1]; exact hb3.alloc hsz3 _
  have hbr1 : Below w3.heap.size w3 W1 := by rw [← hW1]; exact (Below.refl _ _).alloc (Nat.le_refl _) _
  have hs1 : W1.heap.size = w3.heap.size + 1 := by rw [← hW1]; simp
  have hnum := numbersR_any A n c w3.heap.size 3 xs [(dirs - 4, 4), (dirs + 32, 4), (dirs + 36, 4)] W1 ((hr.below hb1).more hb1.size) (by omega) hB1 rfl (by omega) (by
    intro q hq
    simp only [List.mem_cons, List.not_mem_nil, or_false] at hq
    rcases hq with rfl | rfl | rfl
    · exact ⟨by dsimp only; omega, .inr (.inr rfl)⟩
    · exact ⟨by dsimp only; omega, .inr (.inr rfl)⟩
    · exact ⟨by dsimp only; omega, .inr (.inr rfl)⟩)
  obtain ⟨b, hb⟩ : ∃ b, (([(dirs - 4, 4), (dirs + 32, 4), (dirs + 36, 4)] : List (Nat × Nat)).all fun p => Pe.inb xs p.1 p.2) = b := ⟨_, rfl⟩
  rw [hb, hmap] at hnum
  rw [hb] at hall
  have hib : Pe.inb xs (dirs - 4) 4 = true ∨ b = false := by
    cases b with
    | false => exact .inr rfl
    | true =>
      simp only [List.all_cons, Bool.and_eq_true] at hb
      exact .inl hb.1
  have he9 : Pe.head xs = false → Pe.err xs = 9 := Pe.err9 (by rw [k.len]; exact hn)
  have H := Lib.hid (And.intro k (And.intro hr (And.intro hsc (And.intro hsg (And.intro hR (And.intro hZ (And.intro hI (And.intro hb1 (And.intro hbr1 (And.intro hnum (And.intro hhead (And.intro hall (And.intro hfr (And.intro hln (And.intro hib he9)))))))))))))))
  clear k hr hsc hsg hR hZ hI hb3 hb1 hbr1 hnum hhead hall hfr hln hB1 hps hmap hb hkd hfr' hln' hib he9
  go_wp2_with fail
  refine H.out.2.2.2.2.2.2.2.2.2.1.mono ?_
  rintro e w4 ⟨hbn, v, rfl, hv⟩
  clear hW1
  have hw4 : Below w.heap.size w w4 := H.out.2.2.2.2.2.2.2.1.trans (hbn.mono H.out.2.2.2.2.2.2.2.1.size)
  have h34 : Below w3.heap.size w3 w4 := H.out.2.2.2.2.2.2.2.2.1.trans (hbn.mono (by omega))
  have p0' := (h34.cell (p := ⟨gx, 0, none⟩) hgx.2.1).trans p0
  have p1' := (h34.cell (p := ⟨gx, 1, none⟩) hgx.2.1).trans p1
  have p3' := (h34.cell (p := ⟨gx, 3, none⟩) hgx.2.1).trans p3
  have hR4 := H.out.2.2.2.2.1.below h34 hrl
  have hZ4 := H.out.2.2.2.2.2.1.below h34 hzl
  have hI4 := H.out.2.2.2.2.2.2.1.below h34 hil
  clear p0 p1 p3 d2
  obtain ⟨T, hT⟩ : ∃ T, opt + size = T := ⟨_, rfl⟩
  have hTi : (opt : Int) + (size : Int) = (T : Int) := by omega
  have hTl : T ≤ 4295100000 := by omega
  have i1 : IntKind.i64.wrap ((dirs : Int) - opt) = (dirs : Int) - opt := by rw [IntKind.wrap_i64]; omega
  have i2 : IntKind.i64.wrap (8 * (kd : Int)) = 8 * (kd : Int) := by rw [IntKind.wrap_i64]; omega
  have i3 : IntKind.i64.wrap ((dirs : Int) - opt + 8 * (kd : Int)) = (dirs : Int) - opt + 8 * (kd : Int) := by rw [IntKind.wrap_i64]; omega
  have i4 : IntKind.i64.wrap (40 * (m : Int)) = 40 * (m : Int) := by rw [IntKind.wrap_i64]; omega
  have i5 : IntKind.i64.wrap ((T : Int) + 40 * (m : Int)) = (T : Int) + 40 * (m : Int) := by rw [IntKind.wrap_i64]; omega
  cases b
  · have hhf : Pe.head xs = false := by
      rw [Bool.eq_false_iff]
      intro h1
      have h2 := H.out.2.2.2.2.2.2.2.2.2.2.2.1 h1
      cases h2
    have HE := Lib.hid (And.intro (H.out.2.2.2.2.2.2.2.2.2.2.2.2.2.2.2 hhf) (And.intro hZ4 (And.intro hR4 hw4)))
    clear hhf hR4 hZ4 hI4 hv hbn h34 hw4 hT
    go_wp2_with fail
    go_quiet (fail)
    go_wp2_with (first
          | ((with_reducible refine at_load_img ?_); refine wpList_load_img rfl _ rfl zb IV.zero rfl HE.out.2.1 ?_)
          | ((with_reducible refine at_store_img ?_); refine wpList_store_img rfl _ _ rfl w.heap.size IV.zero IV.zero rfl rfl HE.out.2.2.1 IV.zero_one ?_; intro wz hBz hgz)
          | fail)
    refine bodyPost_ret (results_cellTmp Tryd.results16 _ _ _ _ _ rfl (load_img hBz)) rfl ⟨(below_drewN HE.out.2.2.2 _).grown hgz HE.out.2.2.2.size (fun j e => by cases e; exact Nat.le_refl _), IV.zero, ?_, IV.zero_one, fun _ => rfl, fun h => absurd (HE.out.1.symm.trans h) (by decide)⟩
    rw [HE.out.1]; rfl
  · have hown := hv (by first | rfl | trivial)
    obtain ⟨gy, cy, ey, _, _⟩ := hown.1.form (by omega)
    have hgy := hown.2 gy (by rw [ey]; rfl)
    have hgy0 : W1.heap.size ≤ gy := (hown.1.lt gy (by rw [ey]; rfl)).1
    subst ey
    have q0 : w4.cell? ⟨gy, 0, none⟩ = some (.int .i64 (kd : Int)) := hown.1.cellAt 0 (by omega)
    have q1 : w4.cell? ⟨gy, 1, none⟩ = some (.int .i64 (fr : Int)) := hown.1.cellAt 1 (by omega)
    have q2 : w4.cell? ⟨gy, 2, none⟩ = some (.int .i64 (ln : Int)) := hown.1.cellAt 2 (by omega)
    have hh : Pe.head xs = (decide (5 ≤ kd) && (size == dirs - opt + 8 * kd) && decide (hd ≤ n) && decide (T + 40 * m ≤ hd)) := by
      rw [H.out.2.2.2.2.2.2.2.2.2.2.1, H.out.2.2.2.2.2.2.2.2.2.2.2.2.2.2.1.resolve_right (by decide), Bool.true_and, hT]
    have H4 := Lib.hid (And.intro hR4 (And.intro hZ4 (And.intro hI4 (And.intro hw4 (And.intro h34 (And.intro hh hT))))))
    have HQ := Lib.hid (And.intro q1 q2)
    have hgyl : w.heap.size ≤ gy ∧ gy < w4.heap.size ∧ gy ≠ ib := ⟨by omega, hgy, by omega⟩
    have hgxl : w.heap.size ≤ gx ∧ gx < w4.heap.size ∧ gx ≠ ib := ⟨hgx.1, by have := h34.size; omega, hgx.2.2⟩
    have HG := Lib.hid (And.intro hgyl hgxl)
    clear hR4 hZ4 hI4 hv hbn h34 hw4 hh hT hown q1 q2 hgyl hgxl hgx
    by_cases t1 : kd < 5
    · have c1 : decide ((kd : Int) < 5) = true := by simp; omega
      have hhf : Pe.head xs = false := by rw [H4.out.2.2.2.2.2.1, Bool.eq_false_iff]; simp; omega
      have HE := Lib.hid (And.intro (H.out.2.2.2.2.2.2.2.2.2.2.2.2.2.2.2 hhf) (And.intro H4.out.2.1 (And.intro H4.out.1 H4.out.2.2.2.1)))
      clear hhf
      go_wp2_with fail
      go_quiet (fail)
      go_wp2_with (first
            | ((with_reducible refine at_load_img ?_); refine wpList_load_img rfl _ rfl zb IV.zero rfl HE.out.2.1 ?_)
            | ((with_reducible refine at_store_img ?_); refine wpList_store_img rfl _ _ rfl w.heap.size IV.zero IV.zero rfl rfl HE.out.2.2.1 IV.zero_one ?_; intro wz hBz hgz)
            | fail)
      refine bodyPost_ret (results_cellTmp Tryd.results16 _ _ _ _ _ rfl (load_img hBz)) rfl ⟨(below_drewN HE.out.2.2.2 _).grown hgz HE.out.2.2.2.size (fun j e => by cases e; exact Nat.le_refl _), IV.zero, ?_, IV.zero_one, fun _ => rfl, fun h => absurd (HE.out.1.symm.trans h) (by decide)⟩
      rw [HE.out.1]; rfl
    · have c1 : decide ((kd : Int) < 5) = false := by simp; omega
      by_cases t2 : ¬ size = dirs - opt + 8 * kd
      · have c2 : ((size : Int) != (dirs : Int) - opt + 8 * kd) = true := by simp; omega
        have hhf : Pe.head xs = false := by rw [H4.out.2.2.2.2.2.1, Bool.eq_false_iff]; simp; omega
        have HE := Lib.hid (And.intro (H.out.2.2.2.2.2.2.2.2.2.2.2.2.2.2.2 hhf) (And.intro H4.out.2.1 (And.intro H4.out.1 H4.out.2.2.2.1)))
        clear hhf
        go_wp2_with fail
        go_quiet (fail)
        go_wp2_with (first
              | ((with_reducible refine at_load_img ?_); refine wpList_load_img rfl _ rfl zb IV.zero rfl HE.out.2.1 ?_)
              | ((with_reducible refine at_store_img ?_); refine wpList_store_img rfl _ _ rfl w.heap.size IV.zero IV.zero rfl rfl HE.out.2.2.1 IV.zero_one ?_; intro wz hBz hgz)
              | fail)
        refine bodyPost_ret (results_cellTmp Tryd.results16 _ _ _ _ _ rfl (load_img hBz)) rfl ⟨(below_drewN HE.out.2.2.2 _).grown hgz HE.out.2.2.2.size (fun j e => by cases e; exact Nat.le_refl _), IV.zero, ?_, IV.zero_one, fun _ => rfl, fun h => absurd (HE.out.1.symm.trans h) (by decide)⟩
        rw [HE.out.1]; rfl
      · have c2 : ((size : Int) != (dirs : Int) - opt + 8 * kd) = false := by simp; omega
        by_cases t3 : n < hd
        · have c3 : decide ((n : Int) < hd) = true := by simp; omega
          have hhf : Pe.head xs = false := by rw [H4.out.2.2.2.2.2.1, Bool.eq_false_iff]; simp; omega
          have HE := Lib.hid (And.intro (H.out.2.2.2.2.2.2.2.2.2.2.2.2.2.2.2 hhf) (And.intro H4.out.2.1 (And.intro H4.out.1 H4.out.2.2.2.1)))
          clear hhf
          go_wp2_with fail
          go_quiet (fail)
          go_wp2_with (first
                | ((with_reducible refine at_load_img ?_); refine wpList_load_img rfl _ rfl zb IV.zero rfl HE.out.2.1 ?_)
                | ((with_reducible refine at_store_img ?_); refine wpList_store_img rfl _ _ rfl w.heap.size IV.zero IV.zero rfl rfl HE.out.2.2.1 IV.zero_one ?_; intro wz hBz hgz)
                | fail)
          refine bodyPost_ret (results_cellTmp Tryd.results16 _ _ _ _ _ rfl (load_img hBz)) rfl ⟨(below_drewN HE.out.2.2.2 _).grown hgz HE.out.2.2.2.size (fun j e => by cases e; exact Nat.le_refl _), IV.zero, ?_, IV.zero_one, fun _ => rfl, fun h => absurd (HE.out.1.symm.trans h) (by decide)⟩
          rw [HE.out.1]; rfl
        · have c3 : decide ((n : Int) < hd) = false := by simp; omega
          by_cases t4 : hd < T + 40 * m
          · have c4 : decide ((hd : Int) < (T : Int) + 40 * m) = true := by simp; omega
            have hhf : Pe.head xs = false := by rw [H4.out.2.2.2.2.2.1, Bool.eq_false_iff]; simp; omega
            have HE := Lib.hid (And.intro (H.out.2.2.2.2.2.2.2.2.2.2.2.2.2.2.2 hhf) (And.intro H4.out.2.1 (And.intro H4.out.1 H4.out.2.2.2.1)))
            clear hhf
            go_wp2_with fail
            go_quiet (fail)
            go_wp2_with (first
                  | ((with_reducible refine at_load_img ?_); refine wpList_load_img rfl _ rfl zb IV.zero rfl HE.out.2.1 ?_)
                  | ((with_reducible refine at_store_img ?_); refine wpList_store_img rfl _ _ rfl w.heap.size IV.zero IV.zero rfl rfl HE.out.2.2.1 IV.zero_one ?_; intro wz hBz hgz)
                  | fail)
            refine bodyPost_ret (results_cellTmp Tryd.results16 _ _ _ _ _ rfl (load_img hBz)) rfl ⟨(below_drewN HE.out.2.2.2 _).grown hgz HE.out.2.2.2.size (fun j e => by cases e; exact Nat.le_refl _), IV.zero, ?_, IV.zero_one, fun _ => rfl, fun h => absurd (HE.out.1.symm.trans h) (by decide)⟩
            rw [HE.out.1]; rfl
          · have c4 : decide ((hd : Int) < (T : Int) + 40 * m) = false := by simp; omega
            have htt : Pe.head xs = true := by rw [H4.out.2.2.2.2.2.1]; simp; omega
            have HT := Lib.hid htt
            have k15 : RfS xs n T m hd fr ln C := ⟨H.out.1.len, H.out.1.n_, htt, by unfold Pe.table; rw [H.out.1.opt_, H.out.1.size_]; exact H4.out.2.2.2.2.2.2, H.out.1.many_, H.out.1.headers_, H.out.2.2.2.2.2.2.2.2.2.2.2.2.1, H.out.2.2.2.2.2.2.2.2.2.2.2.2.2.1, H.out.1.nums, by omega, by omega, hml, hfrl, hlnl⟩
            have HK := Lib.hid k15
            clear htt k15
            go_wp2_with fail
            go_quiet (fail)
            apply_assumption
            refine wp_cond_false (by rfl) (wp_skip ?_)
            apply_assumption
            exact ref_tail15 HK.out H.out.2.1 H.out.2.2.1 H.out.2.2.2.1 _ (below_drewN H4.out.2.2.2.1 _) (H4.out.1.drewN _) (H4.out.2.1.drewN _) (H4.out.2.2.1.drewN _) hne HG.out.2 HG.out.1 p0' p3' HQ.out.1 HQ.out.2 _ _ _ _ _ _ _ _ _ _ _ _ _ _ _ _ _ _ _ _ _ _ _ _ _ _ _ _ _ _ _ _ _ _ _ _ _ _ _ _ _ _ _ _ _ _ _ _ _ _ _ _ _ _ _ _ _ _ _ _ _ _ _ _ _ _ _ _ _ _ _ _ _ _ _ _ _ _ _ _ _ _ _ _ _ _ _ _ _ _ _ _ _ _ _ _ _ _ _ _ _ _ _ _ _ _ _ _ _ _ _ _ _ _ _ _ _ _ _ _ _ _ _ _ _ _ _ _ _ _ _ _ _ _ _ _ _ _ _ _ _ _ _ _ _ _ _ _ _ _ _ _ _ _ _ _ _ _ _ _ _ _ _ _ _ _ _ _ _ _ _ _ _ _ _ _ _ _ _ _ _ _ _ _ _ _ _ _ _ _ _ _ _ _ _ _ _ _ _ _ _ _ _ _ _ _ _ _ _ _ _ _ _ _ _ _ _ _ _ _ _ _ _ _ _ _ _ _ _ _ _ _ _ _ _ _ _ _ _ _ _ _ _ _ _ _ _ _ _ _ _ _ _

end Go.Proofs.YtlfajfmkljnodaaDoor
