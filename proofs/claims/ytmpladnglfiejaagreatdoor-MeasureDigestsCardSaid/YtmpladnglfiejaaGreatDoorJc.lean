/- Joined of: PeR9 PeR10 PeR11. -/
import Derived.Test.YtmpladnglfiejaaGreatDoorJb
import Derived.Test.YtmpladnglfiejaaGreatDoorJa
section
/- The reference's Parse: the directories. -/
namespace Go.Proofs.YtmpladnglfiejaaGreatDoor
open Go.RowKit
set_option maxRecDepth 100000
set_option linter.unusedVariables false
set_option linter.unusedSimpArgs false
noncomputable def rTail12 : Code := tailOf 12 (codeOf Tryz.f23)
/-- What the reference's Parse knows ahead of the directories. -/
structure RfH (xs : List UInt8) (n opt dirs m size hd : Nat) (C : IV) : Prop where
  len : xs.length = n
  n_ : n ≤ 16777216
  first_ : Pe.first xs = true
  second_ : Pe.second xs = true
  io : Pe.inb xs (opt + 60) 4 = true
  opt_ : Pe.opt xs = opt
  dirs_ : Pe.dirs xs = dirs
  many_ : Pe.many xs = m
  size_ : Pe.size xs = size
  headers_ : Pe.headers xs = hd
  nums : C.plus = Pe.plus xs ∧ C.check = Pe.opt xs + 64 ∧ C.dir = Pe.dirs xs + 32 ∧ C.headers = Pe.headers xs ∧ C.table = 0 ∧ C.length = 0
  optl : opt ≤ 4294967400
  dirl : opt + 96 ≤ dirs ∧ dirs ≤ opt + 112
  ml : m ≤ 96
  sizel : size < 65536
  hdl : hd < 4294967296
theorem RfH.head {xs : List UInt8} {n opt dirs m size hd : Nat} {C : IV} (k : RfH xs n opt dirs m size hd C) : Pe.head xs = (Pe.inb xs (dirs - 4) 4 && (decide (5 ≤ Pe.at_ xs (dirs - 4) 4) && (size == dirs - opt + 8 * Pe.at_ xs (dirs - 4) 4) && decide (hd ≤ n) && decide (opt + size + 40 * m ≤ hd))) := by
  unfold Pe.head Pe.third Pe.kdirs Pe.table
  rw [k.first_, k.second_, k.opt_, k.dirs_, k.many_, k.size_, k.headers_, k.len, k.io]
  simp only [Bool.true_and, Bool.and_true]
theorem RfH.all {xs : List UInt8} {n opt dirs m size hd : Nat} {C : IV} (k : RfH xs n opt dirs m size hd C) (h : Pe.head xs = true) : (([(dirs - 4, 4), (dirs + 32, 4), (dirs + 36, 4)] : List (Nat × Nat)).all fun p => Pe.inb xs p.1 p.2) = true := by
  rw [k.head] at h
  simp only [Bool.and_eq_true, decide_eq_true_eq, beq_iff_eq] at h
  have h1 := k.dirl
  have h2 := k.len
  simp only [List.all_cons, List.all_nil, Bool.and_true, Bool.and_eq_true, Pe.inb, decide_eq_true_eq]
  omega
theorem Pe.err9 {xs : List UInt8} (hn : xs.length ≤ 16777216) (h : Pe.head xs = false) : Pe.err xs = 9 := by
  have hf : Pe.fine xs = false := by unfold Pe.fine; rw [h]; rfl
  unfold Pe.err; rw [if_neg (by omega), hf]; rfl
set_option maxHeartbeats 4000000 in
theorem ref_tail12 {w : World} {n c zb ib gx cx opt dirs m size hd : Nat} {A : Option Addr} {xs : List UInt8} {C : IV} (k : RfH xs n opt dirs m size hd C) (hr : Rd w w.heap.size A n c xs) (hsc : C.secs = .slice none 0 0) (hsg : C.sigs = .slice none 0 0) (w3 : World) (hb3 : Below w.heap.size w w3)
    (hR : Bi w3 w.heap.size IV.zero) (hZ : Bi w3 zb IV.zero) (hI : Bi w3 ib C) (hne : w.heap.size ≠ zb ∧ w.heap.size ≠ ib ∧ zb ≠ ib ∧ w.heap.size ≤ zb ∧ w.heap.size ≤ ib)
    (hgx : w.heap.size ≤ gx ∧ gx < w3.heap.size ∧ gx ≠ ib) (p0 : w3.cell? ⟨gx, 0, none⟩ = some (.int .i64 (m : Int))) (p1 : w3.cell? ⟨gx, 1, none⟩ = some (.int .i64 (size : Int))) (p3 : w3.cell? ⟨gx, 3, none⟩ = some (.int .i64 (hd : Int)))
    (u1 u3 u5 u6 u11 u12 u13 u14 u15 u16 u17 u18 u19 u20 u21 u22 u23 u24 u25 u26 u27 u28 u29 u30 u31 u32 u33 u34 u35 u36 u37 u38 u39 u40 u41 u42 u43 u44 u45 u46 u47 u48 u49 u50 u51 u52 u53 u54 u55 u56 u57 u58 u59 u60 u61 u62 u63 u64 u65 u66 u67 u68 u69 u70 u71 u72 u73 u74 u75 u76 u77 u78 u79 u80 u81 u82 u83 u84 u85 u86 u87 u88 u89 u90 u91 u92 u93 u94 u95 u96 u97 u98 u99 u100 u101 u102 u103 u104 u105 u106 u107 u108 u109 u110 u111 u112 u113 u114 u115 u116 u117 u118 u119 u120 u121 u122 u123 u124 u125 u126 u127 u128 u129 u130 u131 u132 u133 u134 u135 u136 u137 u138 u139 u140 u141 u142 u143 u144 u145 u146 u147 u148 u149 u150 u151 u152 u153 u154 u155 u156 u157 u158 u159 u160 u161 u162 u163 u164 u165 u166 u167 u168 u169 u170 u171 u172 u173 u174 u175 u176 u177 u178 u179 u180 u181 u182 u183 u184 u185 u186 u187 u188 u189 u190 u191 u192 u193 u194 u195 u196 u197 u198 u199 u200 u201 u202 u203 u204 u205 u206 u207 u208 u209 u210 u211 u212 u213 u214 u215 u216 u217 u218 u219 u220 u221 u222 u223 u224 u225 u226 u227 u228 u229 u230 u231 u232 u233 u234 u235 u236 u237 u238 u239 u240 u241 u242 u243 u244 u245 u246 u247 u248 u249 u250 u251 u252 u253 u254 u255 u256 u257 u258 u259 : Value) :
    rTail12.wp Tryz.prog (bodyPost Tryz.prog Tryz.f23 (RefOut xs w)) { tmps := (Value.slice A n c :: u1 :: Value.pointer (some ⟨w.heap.size, 0, none⟩) :: u3 :: Value.pointer (some ⟨zb, 0, none⟩) :: u5 :: u6 :: Value.int .i64 (opt : Int) :: Value.slice (some ⟨gx, 0, none⟩) 4 cx :: Value.pointer (some ⟨ib, 0, none⟩) :: Value.int .i64 (dirs : Int) :: u11 :: u12 :: u13 :: u14 :: u15 :: u16 :: u17 :: u18 :: u19 :: u20 :: u21 :: u22 :: u23 :: u24 :: u25 :: u26 :: u27 :: u28 :: u29 :: u30 :: u31 :: u32 :: u33 :: u34 :: u35 :: u36 :: u37 :: u38 :: u39 :: u40 :: u41 :: u42 :: u43 :: u44 :: u45 :: u46 :: u47 :: u48 :: u49 :: u50 :: u51 :: u52 :: u53 :: u54 :: u55 :: u56 :: u57 :: u58 :: u59 :: u60 :: u61 :: u62 :: u63 :: u64 :: u65 :: u66 :: u67 :: u68 :: u69 :: u70 :: u71 :: u72 :: u73 :: u74 :: u75 :: u76 :: u77 :: u78 :: u79 :: u80 :: u81 :: u82 :: u83 :: u84 :: u85 :: u86 :: u87 :: u88 :: u89 :: u90 :: u91 :: u92 :: u93 :: u94 :: u95 :: u96 :: u97 :: u98 :: u99 :: u100 :: u101 :: u102 :: u103 :: u104 :: u105 :: u106 :: u107 :: u108 :: u109 :: u110 :: u111 :: u112 :: u113 :: u114 :: u115 :: u116 :: u117 :: u118 :: u119 :: u120 :: u121 :: u122 :: u123 :: u124 :: u125 :: u126 :: u127 :: u128 :: u129 :: u130 :: u131 :: u132 :: u133 :: u134 :: u135 :: u136 :: u137 :: u138 :: u139 :: u140 :: u141 :: u142 :: u143 :: u144 :: u145 :: u146 :: u147 :: u148 :: u149 :: u150 :: u151 :: u152 :: u153 :: u154 :: u155 :: u156 :: u157 :: u158 :: u159 :: u160 :: u161 :: u162 :: u163 :: u164 :: u165 :: u166 :: u167 :: u168 :: u169 :: u170 :: u171 :: u172 :: u173 :: u174 :: u175 :: u176 :: u177 :: u178 :: u179 :: u180 :: u181 :: u182 :: u183 :: u184 :: u185 :: u186 :: u187 :: u188 :: u189 :: u190 :: u191 :: u192 :: u193 :: u194 :: u195 :: u196 :: u197 :: u198 :: u199 :: u200 :: u201 :: u202 :: u203 :: u204 :: u205 :: u206 :: u207 :: u208 :: u209 :: u210 :: u211 :: u212 :: u213 :: u214 :: u215 :: u216 :: u217 :: u218 :: u219 :: u220 :: u221 :: u222 :: u223 :: u224 :: u225 :: u226 :: u227 :: u228 :: u229 :: u230 :: u231 :: u232 :: u233 :: u234 :: u235 :: u236 :: u237 :: u238 :: u239 :: u240 :: u241 :: u242 :: u243 :: u244 :: u245 :: u246 :: u247 :: u248 :: u249 :: u250 :: u251 :: u252 :: u253 :: u254 :: u255 :: u256 :: u257 :: u258 :: u259 :: []).toArray, defers := [] } w3 := by
  generalize hQ : bodyPost Tryz.prog Tryz.f23 (RefOut xs w) = Q
  unfold rTail12 codeOf
  simp only [Tryz.f23, tailOf, Option.getD_some]
  subst hQ
  have hrl := hR.lt
  have hzl := hZ.lt
  have hil := hI.lt
  have hsz3 := hb3.size
  have hn := k.n_
  have hdirl := k.dirl
  have hoptl := k.optl
  have hml := k.ml
  have hsizel := k.sizel
  have hhdl := k.hdl
  have d2 : w3.cell? ⟨ib, 2, none⟩ = some (.int .i64 ((dirs : Int) + 32)) := (hI.cell 2).trans (by simp only [IV.cells]; rw [k.nums.2.2.1, k.dirs_]; rfl)
  have hhead := k.head
  have hall := k.all
  obtain ⟨kd, hkd⟩ : ∃ N, Pe.at_ xs (dirs - 4) 4 = N := ⟨_, rfl⟩
  have hkdl : kd < 4294967296 := by rw [← hkd]; exact Pe.at_lt4 _ _
  rw [hkd] at hhead
  have hfr : Pe.from_ xs = Pe.at_ xs (dirs + 32) 4 := by unfold Pe.from_; rw [k.dirs_]
  have hln : Pe.length xs = Pe.at_ xs (dirs + 36) 4 := by unfold Pe.length; rw [k.dirs_]
  obtain ⟨fr, hfr'⟩ : ∃ N, Pe.at_ xs (dirs + 32) 4 = N := ⟨_, rfl⟩
  obtain ⟨ln, hln'⟩ : ∃ N, Pe.at_ xs (dirs + 36) 4 = N := ⟨_, rfl⟩
  have hfrl : fr < 4294967296 := by rw [← hfr']; exact Pe.at_lt4 _ _
  have hlnl : ln < 4294967296 := by rw [← hln']; exact Pe.at_lt4 _ _
  rw [hfr'] at hfr
  rw [hln'] at hln
  have hmap : ([(dirs - 4, 4), (dirs + 32, 4), (dirs + 36, 4)].map fun p : Nat × Nat => Pe.at_ xs p.1 p.2).map natV = [.int .i64 (kd : Int), .int .i64 (fr : Int), .int .i64 (ln : Int)] := by
    simp only [List.map_cons, List.map_nil, hkd, hfr', hln', natV]
  obtain ⟨W1, hW1⟩ : ∃ W1, w3.alloc (.cells #[.int .i64 ((dirs : Int) - 4), .int .i64 4, .int .i64 ((dirs : Int) + 32), .int .i64 4, .int .i64 ((dirs : Int) + 32 + 4), .int .i64 4] 39) = W1 := ⟨_, rfl⟩
  have hps : ([(dirs - 4, 4), (dirs + 32, 4), (dirs + 36, 4)].flatMap pairC).toArray = #[.int .i64 ((dirs : Int) - 4), .int .i64 4, .int .i64 ((dirs : Int) + 32), .int .i64 4, .int .i64 ((dirs : Int) + 32 + 4), .int .i64 4] := by
    simp [pairC]; omega
  have hB1 : Blk W1 w3.heap.size 39 ([(dirs - 4, 4), (dirs + 32, 4), (dirs + 36, 4)].flatMap pairC).toArray := by
    rw [← hW1, hps]
    exact Blk.new w3 _ _
  have hb1 : Below w.heap.size w W1 := by rw [← hW1]; exact hb3.alloc hsz3 _
  have hbr1 : Below w3.heap.size w3 W1 := by rw [← hW1]; exact (Below.refl _ _).alloc (Nat.le_refl _) _
  have hs1 : W1.heap.size = w3.heap.size + 1 := by rw [← hW1]; simp
  have hnum := numbersR_any A n c w3.heap.size 3 xs [(dirs - 4, 4), (dirs + 32, 4), (dirs + 36, 4)] W1 ((hr.below hb1).more hb1.size) (by omega) hB1 rfl (by omega) (by
    intro q hq
    simp only [List.mem_cons, List.not_mem_nil, or_false] at hq
    rcases hq with rfl | rfl | rfl
    · exact ⟨by dsimp only; omega, .inr (.inr rfl)⟩
    · exact ⟨by dsimp only; omega, .inr (.inr rfl)⟩
    · exact ⟨by dsimp only; omega, .inr (.inr rfl)⟩)
  obtain ⟨b, hb⟩ : ∃ b, (([(dirs - 4, 4), (dirs + 32, 4), (dirs + 36, 4)] : List (Nat × Nat)).all fun p => Pe.inb xs p.1 p.2) = b := ⟨_, rfl⟩
  rw [hb, hmap] at hnum
  rw [hb] at hall
  have hib : Pe.inb xs (dirs - 4) 4 = true ∨ b = false := by
    cases b with
    | false => exact .inr rfl
    | true =>
      simp only [List.all_cons, Bool.and_eq_true] at hb
      exact .inl hb.1
  have he9 : Pe.head xs = false → Pe.err xs = 9 := Pe.err9 (by rw [k.len]; exact hn)
  have H := Lib.hid (And.intro k (And.intro hr (And.intro hsc (And.intro hsg (And.intro hR (And.intro hZ (And.intro hI (And.intro hb1 (And.intro hbr1 (And.intro hnum (And.intro hhead (And.intro hall (And.intro hfr (And.intro hln (And.intro hib he9)))))))))))))))
  clear k hr hsc hsg hR hZ hI hb3 hb1 hbr1 hnum hhead hall hfr hln hB1 hps hmap hb hkd hfr' hln' hib he9
  go_wp2_with fail
  refine H.out.2.2.2.2.2.2.2.2.2.1.mono ?_
  rintro e w4 ⟨hbn, v, rfl, hv⟩
  clear hW1
  have hw4 : Below w.heap.size w w4 := H.out.2.2.2.2.2.2.2.1.trans (hbn.mono H.out.2.2.2.2.2.2.2.1.size)
  have h34 : Below w3.heap.size w3 w4 := H.out.2.2.2.2.2.2.2.2.1.trans (hbn.mono (by omega))
  have p0' := (h34.cell (p := ⟨gx, 0, none⟩) hgx.2.1).trans p0
  have p1' := (h34.cell (p := ⟨gx, 1, none⟩) hgx.2.1).trans p1
  have p3' := (h34.cell (p := ⟨gx, 3, none⟩) hgx.2.1).trans p3
  have hR4 := H.out.2.2.2.2.1.below h34 hrl
  have hZ4 := H.out.2.2.2.2.2.1.below h34 hzl
  have hI4 := H.out.2.2.2.2.2.2.1.below h34 hil
  clear p0 p1 p3 d2
  obtain ⟨T, hT⟩ : ∃ T, opt + size = T := ⟨_, rfl⟩
  have hTi : (opt : Int) + (size : Int) = (T : Int) := by omega
  have hTl : T ≤ 4295100000 := by omega
  have i1 : IntKind.i64.wrap ((dirs : Int) - opt) = (dirs : Int) - opt := by rw [IntKind.wrap_i64]; omega
  have i2 : IntKind.i64.wrap (8 * (kd : Int)) = 8 * (kd : Int) := by rw [IntKind.wrap_i64]; omega
  have i3 : IntKind.i64.wrap ((dirs : Int) - opt + 8 * (kd : Int)) = (dirs : Int) - opt + 8 * (kd : Int) := by rw [IntKind.wrap_i64]; omega
  have i4 : IntKind.i64.wrap (40 * (m : Int)) = 40 * (m : Int) := by rw [IntKind.wrap_i64]; omega
  have i5 : IntKind.i64.wrap ((T : Int) + 40 * (m : Int)) = (T : Int) + 40 * (m : Int) := by rw [IntKind.wrap_i64]; omega
  cases b
  · have hhf : Pe.head xs = false := by
      rw [Bool.eq_false_iff]
      intro h1
      have h2 := H.out.2.2.2.2.2.2.2.2.2.2.2.1 h1
      cases h2
    have HE := Lib.hid (And.intro (H.out.2.2.2.2.2.2.2.2.2.2.2.2.2.2.2 hhf) (And.intro hZ4 (And.intro hR4 hw4)))
    clear hhf hR4 hZ4 hI4 hv hbn h34 hw4 hT
    go_wp2_with fail
    go_quiet (fail)
    go_wp2_with (first
          | ((with_reducible refine at_load_img ?_); refine wpList_load_img rfl _ rfl zb IV.zero rfl HE.out.2.1 ?_)
          | ((with_reducible refine at_store_img ?_); refine wpList_store_img rfl _ _ rfl w.heap.size IV.zero IV.zero rfl rfl HE.out.2.2.1 IV.zero_one ?_; intro wz hBz hgz)
          | fail)
    refine bodyPost_ret (results_cellTmp Tryz.results23 _ _ _ _ _ rfl (load_img hBz)) rfl ⟨(below_drewN HE.out.2.2.2 _).grown hgz HE.out.2.2.2.size (fun j e => by cases e; exact Nat.le_refl _), IV.zero, ?_, IV.zero_one, fun _ => rfl, fun h => absurd (HE.out.1.symm.trans h) (by decide)⟩
    rw [HE.out.1]; rfl
  · have hown := hv (by first | rfl | trivial)
    obtain ⟨gy, cy, ey, _, _⟩ := hown.1.form (by omega)
    have hgy := hown.2 gy (by rw [ey]; rfl)
    have hgy0 : W1.heap.size ≤ gy := (hown.1.lt gy (by rw [ey]; rfl)).1
    subst ey
    have q0 : w4.cell? ⟨gy, 0, none⟩ = some (.int .i64 (kd : Int)) := hown.1.cellAt 0 (by omega)
    have q1 : w4.cell? ⟨gy, 1, none⟩ = some (.int .i64 (fr : Int)) := hown.1.cellAt 1 (by omega)
    have q2 : w4.cell? ⟨gy, 2, none⟩ = some (.int .i64 (ln : Int)) := hown.1.cellAt 2 (by omega)
    have hh : Pe.head xs = (decide (5 ≤ kd) && (size == dirs - opt + 8 * kd) && decide (hd ≤ n) && decide (T + 40 * m ≤ hd)) := by
      rw [H.out.2.2.2.2.2.2.2.2.2.2.1, H.out.2.2.2.2.2.2.2.2.2.2.2.2.2.2.1.resolve_right (by decide), Bool.true_and, hT]
    have H4 := Lib.hid (And.intro hR4 (And.intro hZ4 (And.intro hI4 (And.intro hw4 (And.intro h34 (And.intro hh hT))))))
    have HQ := Lib.hid (And.intro q1 q2)
    have hgyl : w.heap.size ≤ gy ∧ gy < w4.heap.size ∧ gy ≠ ib := ⟨by omega, hgy, by omega⟩
    have hgxl : w.heap.size ≤ gx ∧ gx < w4.heap.size ∧ gx ≠ ib := ⟨hgx.1, by have := h34.size; omega, hgx.2.2⟩
    have HG := Lib.hid (And.intro hgyl hgxl)
    clear hR4 hZ4 hI4 hv hbn h34 hw4 hh hT hown q1 q2 hgyl hgxl hgx
    by_cases t1 : kd < 5
    · have c1 : decide ((kd : Int) < 5) = true := by simp; omega
      have hhf : Pe.head xs = false := by rw [H4.out.2.2.2.2.2.1, Bool.eq_false_iff]; simp; omega
      have HE := Lib.hid (And.intro (H.out.2.2.2.2.2.2.2.2.2.2.2.2.2.2.2 hhf) (And.intro H4.out.2.1 (And.intro H4.out.1 H4.out.2.2.2.1)))
      clear hhf
      go_wp2_with fail
      go_quiet (fail)
      go_wp2_with (first
            | ((with_reducible refine at_load_img ?_); refine wpList_load_img rfl _ rfl zb IV.zero rfl HE.out.2.1 ?_)
            | ((with_reducible refine at_store_img ?_); refine wpList_store_img rfl _ _ rfl w.heap.size IV.zero IV.zero rfl rfl HE.out.2.2.1 IV.zero_one ?_; intro wz hBz hgz)
            | fail)
      refine bodyPost_ret (results_cellTmp Tryz.results23 _ _ _ _ _ rfl (load_img hBz)) rfl ⟨(below_drewN HE.out.2.2.2 _).grown hgz HE.out.2.2.2.size (fun j e => by cases e; exact Nat.le_refl _), IV.zero, ?_, IV.zero_one, fun _ => rfl, fun h => absurd (HE.out.1.symm.trans h) (by decide)⟩
      rw [HE.out.1]; rfl
    · have c1 : decide ((kd : Int) < 5) = false := by simp; omega
      by_cases t2 : ¬ size = dirs - opt + 8 * kd
      · have c2 : ((size : Int) != (dirs : Int) - opt + 8 * kd) = true := by simp; omega
        have hhf : Pe.head xs = false := by rw [H4.out.2.2.2.2.2.1, Bool.eq_false_iff]; simp; omega
        have HE := Lib.hid (And.intro (H.out.2.2.2.2.2.2.2.2.2.2.2.2.2.2.2 hhf) (And.intro H4.out.2.1 (And.intro H4.out.1 H4.out.2.2.2.1)))
        clear hhf
        go_wp2_with fail
        go_quiet (fail)
        go_wp2_with (first
              | ((with_reducible refine at_load_img ?_); refine wpList_load_img rfl _ rfl zb IV.zero rfl HE.out.2.1 ?_)
              | ((with_reducible refine at_store_img ?_); refine wpList_store_img rfl _ _ rfl w.heap.size IV.zero IV.zero rfl rfl HE.out.2.2.1 IV.zero_one ?_; intro wz hBz hgz)
              | fail)
        refine bodyPost_ret (results_cellTmp Tryz.results23 _ _ _ _ _ rfl (load_img hBz)) rfl ⟨(below_drewN HE.out.2.2.2 _).grown hgz HE.out.2.2.2.size (fun j e => by cases e; exact Nat.le_refl _), IV.zero, ?_, IV.zero_one, fun _ => rfl, fun h => absurd (HE.out.1.symm.trans h) (by decide)⟩
        rw [HE.out.1]; rfl
      · have c2 : ((size : Int) != (dirs : Int) - opt + 8 * kd) = false := by simp; omega
        by_cases t3 : n < hd
        · have c3 : decide ((n : Int) < hd) = true := by simp; omega
          have hhf : Pe.head xs = false := by rw [H4.out.2.2.2.2.2.1, Bool.eq_false_iff]; simp; omega
          have HE := Lib.hid (And.intro (H.out.2.2.2.2.2.2.2.2.2.2.2.2.2.2.2 hhf) (And.intro H4.out.2.1 (And.intro H4.out.1 H4.out.2.2.2.1)))
          clear hhf
          go_wp2_with fail
          go_quiet (fail)
          go_wp2_with (first
                | ((with_reducible refine at_load_img ?_); refine wpList_load_img rfl _ rfl zb IV.zero rfl HE.out.2.1 ?_)
                | ((with_reducible refine at_store_img ?_); refine wpList_store_img rfl _ _ rfl w.heap.size IV.zero IV.zero rfl rfl HE.out.2.2.1 IV.zero_one ?_; intro wz hBz hgz)
                | fail)
          refine bodyPost_ret (results_cellTmp Tryz.results23 _ _ _ _ _ rfl (load_img hBz)) rfl ⟨(below_drewN HE.out.2.2.2 _).grown hgz HE.out.2.2.2.size (fun j e => by cases e; exact Nat.le_refl _), IV.zero, ?_, IV.zero_one, fun _ => rfl, fun h => absurd (HE.out.1.symm.trans h) (by decide)⟩
          rw [HE.out.1]; rfl
        · have c3 : decide ((n : Int) < hd) = false := by simp; omega
          by_cases t4 : hd < T + 40 * m
          · have c4 : decide ((hd : Int) < (T : Int) + 40 * m) = true := by simp; omega
            have hhf : Pe.head xs = false := by rw [H4.out.2.2.2.2.2.1, Bool.eq_false_iff]; simp; omega
            have HE := Lib.hid (And.intro (H.out.2.2.2.2.2.2.2.2.2.2.2.2.2.2.2 hhf) (And.intro H4.out.2.1 (And.intro H4.out.1 H4.out.2.2.2.1)))
            clear hhf
            go_wp2_with fail
            go_quiet (fail)
            go_wp2_with (first
                  | ((with_reducible refine at_load_img ?_); refine wpList_load_img rfl _ rfl zb IV.zero rfl HE.out.2.1 ?_)
                  | ((with_reducible refine at_store_img ?_); refine wpList_store_img rfl _ _ rfl w.heap.size IV.zero IV.zero rfl rfl HE.out.2.2.1 IV.zero_one ?_; intro wz hBz hgz)
                  | fail)
            refine bodyPost_ret (results_cellTmp Tryz.results23 _ _ _ _ _ rfl (load_img hBz)) rfl ⟨(below_drewN HE.out.2.2.2 _).grown hgz HE.out.2.2.2.size (fun j e => by cases e; exact Nat.le_refl _), IV.zero, ?_, IV.zero_one, fun _ => rfl, fun h => absurd (HE.out.1.symm.trans h) (by decide)⟩
            rw [HE.out.1]; rfl
          · have c4 : decide ((hd : Int) < (T : Int) + 40 * m) = false := by simp; omega
            have htt : Pe.head xs = true := by rw [H4.out.2.2.2.2.2.1]; simp; omega
            have HT := Lib.hid htt
            have k15 : RfS xs n T m hd fr ln C := ⟨H.out.1.len, H.out.1.n_, htt, by unfold Pe.table; rw [H.out.1.opt_, H.out.1.size_]; exact H4.out.2.2.2.2.2.2, H.out.1.many_, H.out.1.headers_, H.out.2.2.2.2.2.2.2.2.2.2.2.2.1, H.out.2.2.2.2.2.2.2.2.2.2.2.2.2.1, H.out.1.nums, by omega, by omega, hml, hfrl, hlnl⟩
            have HK := Lib.hid k15
            clear htt k15
            go_wp2_with fail
            go_quiet (fail)
            apply_assumption
            refine wp_cond_false (by rfl) (wp_skip ?_)
            apply_assumption
            exact ref_tail15 HK.out H.out.2.1 H.out.2.2.1 H.out.2.2.2.1 _ (below_drewN H4.out.2.2.2.1 _) (H4.out.1.drewN _) (H4.out.2.1.drewN _) (H4.out.2.2.1.drewN _) hne HG.out.2 HG.out.1 p0' p3' HQ.out.1 HQ.out.2 _ _ _ _ _ _ _ _ _ _ _ _ _ _ _ _ _ _ _ _ _ _ _ _ _ _ _ _ _ _ _ _ _ _ _ _ _ _ _ _ _ _ _ _ _ _ _ _ _ _ _ _ _ _ _ _ _ _ _ _ _ _ _ _ _ _ _ _ _ _ _ _ _ _ _ _ _ _ _ _ _ _ _ _ _ _ _ _ _ _ _ _ _ _ _ _ _ _ _ _ _ _ _ _ _ _ _ _ _ _ _ _ _ _ _ _ _ _ _ _ _ _ _ _ _ _ _ _ _ _ _ _ _ _ _ _ _ _ _ _ _ _ _ _ _ _ _ _ _ _ _ _ _ _ _ _ _ _ _ _ _ _ _ _ _ _ _ _ _ _ _ _ _ _ _ _ _ _ _ _ _ _ _ _ _ _ _ _ _ _ _ _ _ _ _ _ _ _ _ _ _ _ _ _ _ _ _ _ _ _ _ _ _ _ _ _ _ _ _ _ _ _ _ _ _ _ _ _ _ _ _ _ _ _ _ _ _ _ _ _ _ _ _ _ _ _ _ _ _ _ _ _ _

end Go.Proofs.YtmpladnglfiejaaGreatDoor
end

section
/- The reference's Parse: the image is made. -/
namespace Go.Proofs.YtmpladnglfiejaaGreatDoor
open Go.RowKit
set_option maxRecDepth 100000
set_option linter.unusedVariables false
set_option linter.unusedSimpArgs false
noncomputable def rTail9 : Code := tailOf 9 (codeOf Tryz.f23)
noncomputable def rTail8 : Code := tailOf 8 (codeOf Tryz.f23)
theorem wp_store_im {o : Oper} {a : Act} {w : World} {K : Act → World → Prop} {Q : Exit → Act → World → Prop} (x y : Operand) (ho : o.op = .store 30 x y)
    (g : Nat) (C D : IV) (hx : a.eval x = .pointer (some ⟨g, 0, none⟩)) (hy : a.eval y = .agg D.cells) (hB : Bi w g C) (hD : D.One)
    (h : ∀ w', Bi w' g D → w.grownBy w' (some g) → K (a.put o.dst undef) w') : o.wp Tryz.prog a w K Q := by
  unfold Oper.wp execOp
  simp only [ho, hx, hy, Instr.storeAt, Instr.sureAddr, Sem.run_bind, Sem.run_pure, Result.andThen_ok, run_put_img hB D hD]
  exact h _ (setRow_img hB).1 (setRow_img hB).2
theorem K_alloc_im {o : Oper} {a : Act} {w : World} {K : Act → World → Prop} {Q : Exit → Act → World → Prop} (ho : o.op = .alloc 30) (h : K (a.put o.dst (.pointer (some ⟨w.heap.size, 0, none⟩))) (w.alloc (.cells IV.zero.cells 30))) : o.wp Tryz.prog a w K Q := by
  have hr : (Instr.alloc 30 true (.tuple #[])).run Tryz.prog w = .ok (.pointer (some ⟨w.heap.size, 0, none⟩)) (w.alloc (.cells IV.zero.cells 30)) := by
    simp [go_sem]
    try rfl
  unfold Oper.wp
  rw [show (execOp a.eval o).run Tryz.prog w = .ok (.value (.pointer (some ⟨w.heap.size, 0, none⟩))) (w.alloc (.cells IV.zero.cells 30)) from by simp only [execOp, ho]; simp [hr], Oper.upon_value]
  exact h
/-- The image as it is made. -/
def RfIm (plus : Bool) (opt hd : Nat) : IV := {IV.zero with plus := plus, check := opt + 64, headers := hd}
/-- What the slots hold where the image is made. -/
def ImJ (H gx cx opt hd mg : Nat) (plus : Bool) : Nat → Value → World → Prop
  | 0, v, _ => v = .slice (some ⟨gx, 0, none⟩) 4 cx
  | 1, v, _ => v = .pointer (some ⟨gx, 2, none⟩)
  | 2, v, _ => v = .int .i64 (mg : Int)
  | 3, v, _ => v = .bool plus
  | 4, v, _ => v = .int .i64 (opt : Int)
  | 5, v, _ => v = .int .i64 ((opt + 64 : Nat) : Int)
  | 6, v, _ => v = .slice (some ⟨gx, 0, none⟩) 4 cx
  | 7, v, _ => v = .pointer (some ⟨gx, 3, none⟩)
  | 8, v, _ => v = .int .i64 (hd : Int)
  | 9, v, _ => v = .int .u32 (hd : Int)
  | 10, v, _ => v = .agg (RfIm plus opt hd).cells
  | 11, v, w => ∃ p, v = .pointer (some ⟨p, 0, none⟩) ∧ H ≤ p ∧ Bi w p IV.zero
  | _, _, _ => True
theorem ImJ.mono {H gx cx opt hd mg : Nat} {plus : Bool} : ∀ (i : Nat) (v : Value) (w w' : World), Below w.heap.size w w' → ImJ H gx cx opt hd mg plus i v w → ImJ H gx cx opt hd mg plus i v w' := by
  intro i v w w' hb h
  unfold ImJ at h ⊢
  split <;> first | trivial | exact h | (obtain ⟨p, e, h1, h2⟩ := h; exact ⟨p, e, h1, h2.below hb h2.lt⟩)
theorem load_i64 {w : World} {p : Addr} {z : Int} (h : w.cell? p = some (.int .i64 z)) : (loadVar 3 p).run Tryz.prog w = .ok (.int .i64 z) w := load_intR h
set_option maxHeartbeats 4000000 in
theorem ref_tail9 {w : World} {n c zb ib gx cx opt dirs m size hd : Nat} {plus : Bool} {A : Option Addr} {xs : List UInt8} (k : ∀ C : IV, (C.plus = Pe.plus xs ∧ C.check = Pe.opt xs + 64 ∧ C.dir = Pe.dirs xs + 32 ∧ C.headers = Pe.headers xs ∧ C.table = 0 ∧ C.length = 0) → RfH xs n opt dirs m size hd C) (hr : Rd w w.heap.size A n c xs) (hpx : Pe.plus xs = plus) (hdx : opt + (if plus then 112 else 96) = dirs) (w2c : World) (hb2 : Below w.heap.size w w2c)
    (hR : Bi w2c w.heap.size IV.zero) (hZ : Bi w2c zb IV.zero) (hBp : Bi w2c ib (RfIm plus opt hd)) (hne : w.heap.size ≠ zb ∧ w.heap.size ≠ ib ∧ zb ≠ ib ∧ w.heap.size ≤ zb ∧ w.heap.size ≤ ib)
    (hgx : w.heap.size ≤ gx ∧ gx < w2c.heap.size ∧ gx ≠ ib) (p0 : w2c.cell? ⟨gx, 0, none⟩ = some (.int .i64 (m : Int))) (p1 : w2c.cell? ⟨gx, 1, none⟩ = some (.int .i64 (size : Int))) (p3 : w2c.cell? ⟨gx, 3, none⟩ = some (.int .i64 (hd : Int)))
    (u1 u3 u5 u6 u10 u11 u12 u13 u14 u15 u16 u17 u18 u19 u20 u21 u22 u23 u24 u25 u26 u27 u28 u29 u30 u31 u32 u33 u34 u35 u36 u37 u38 u39 u40 u41 u42 u43 u44 u45 u46 u47 u48 u49 u50 u51 u52 u53 u54 u55 u56 u57 u58 u59 u60 u61 u62 u63 u64 u65 u66 u67 u68 u69 u70 u71 u72 u73 u74 u75 u76 u77 u78 u79 u80 u81 u82 u83 u84 u85 u86 u87 u88 u89 u90 u91 u92 u93 u94 u95 u96 u97 u98 u99 u100 u101 u102 u103 u104 u105 u106 u107 u108 u109 u110 u111 u112 u113 u114 u115 u116 u117 u118 u119 u120 u121 u122 u123 u124 u125 u126 u127 u128 u129 u130 u131 u132 u133 u134 u135 u136 u137 u138 u139 u140 u141 u142 u143 u144 u145 u146 u147 u148 u149 u150 u151 u152 u153 u154 u155 u156 u157 u158 u159 u160 u161 u162 u163 u164 u165 u166 u167 u168 u169 u170 u171 u172 u173 u174 u175 u176 u177 u178 u179 u180 u181 u182 u183 u184 u185 u186 u187 u188 u189 u190 u191 u192 u193 u194 u195 u196 u197 u198 u199 u200 u201 u202 u203 u204 u205 u206 u207 u208 u209 u210 u211 u212 u213 u214 u215 u216 u217 u218 u219 u220 u221 u222 u223 u224 u225 u226 u227 u228 u229 u230 u231 u232 u233 u234 u235 u236 u237 u238 u239 u240 u241 u242 u243 u244 u245 u246 u247 u248 u249 u250 u251 u252 u253 u254 u255 u256 u257 u258 u259 : Value) :
    rTail9.wp Tryz.prog (bodyPost Tryz.prog Tryz.f23 (RefOut xs w)) { tmps := (Value.slice A n c :: u1 :: Value.pointer (some ⟨w.heap.size, 0, none⟩) :: u3 :: Value.pointer (some ⟨zb, 0, none⟩) :: u5 :: u6 :: Value.int .i64 (opt : Int) :: Value.slice (some ⟨gx, 0, none⟩) 4 cx :: Value.pointer (some ⟨ib, 0, none⟩) :: u10 :: u11 :: u12 :: u13 :: u14 :: u15 :: u16 :: u17 :: u18 :: u19 :: u20 :: u21 :: u22 :: u23 :: u24 :: u25 :: u26 :: u27 :: u28 :: u29 :: u30 :: u31 :: u32 :: u33 :: u34 :: u35 :: u36 :: u37 :: u38 :: u39 :: u40 :: u41 :: u42 :: u43 :: u44 :: u45 :: u46 :: u47 :: u48 :: u49 :: u50 :: u51 :: u52 :: u53 :: u54 :: u55 :: u56 :: u57 :: u58 :: u59 :: u60 :: u61 :: u62 :: u63 :: u64 :: u65 :: u66 :: u67 :: u68 :: u69 :: u70 :: u71 :: u72 :: u73 :: u74 :: u75 :: u76 :: u77 :: u78 :: u79 :: u80 :: u81 :: u82 :: u83 :: u84 :: u85 :: u86 :: u87 :: u88 :: u89 :: u90 :: u91 :: u92 :: u93 :: u94 :: u95 :: u96 :: u97 :: u98 :: u99 :: u100 :: u101 :: u102 :: u103 :: u104 :: u105 :: u106 :: u107 :: u108 :: u109 :: u110 :: u111 :: u112 :: u113 :: u114 :: u115 :: u116 :: u117 :: u118 :: u119 :: u120 :: u121 :: u122 :: u123 :: u124 :: u125 :: u126 :: u127 :: u128 :: u129 :: u130 :: u131 :: u132 :: u133 :: u134 :: u135 :: u136 :: u137 :: u138 :: u139 :: u140 :: u141 :: u142 :: u143 :: u144 :: u145 :: u146 :: u147 :: u148 :: u149 :: u150 :: u151 :: u152 :: u153 :: u154 :: u155 :: u156 :: u157 :: u158 :: u159 :: u160 :: u161 :: u162 :: u163 :: u164 :: u165 :: u166 :: u167 :: u168 :: u169 :: u170 :: u171 :: u172 :: u173 :: u174 :: u175 :: u176 :: u177 :: u178 :: u179 :: u180 :: u181 :: u182 :: u183 :: u184 :: u185 :: u186 :: u187 :: u188 :: u189 :: u190 :: u191 :: u192 :: u193 :: u194 :: u195 :: u196 :: u197 :: u198 :: u199 :: u200 :: u201 :: u202 :: u203 :: u204 :: u205 :: u206 :: u207 :: u208 :: u209 :: u210 :: u211 :: u212 :: u213 :: u214 :: u215 :: u216 :: u217 :: u218 :: u219 :: u220 :: u221 :: u222 :: u223 :: u224 :: u225 :: u226 :: u227 :: u228 :: u229 :: u230 :: u231 :: u232 :: u233 :: u234 :: u235 :: u236 :: u237 :: u238 :: u239 :: u240 :: u241 :: u242 :: u243 :: u244 :: u245 :: u246 :: u247 :: u248 :: u249 :: u250 :: u251 :: u252 :: u253 :: u254 :: u255 :: u256 :: u257 :: u258 :: u259 :: []).toArray, defers := [] } w2c := by
  generalize hQ : bodyPost Tryz.prog Tryz.f23 (RefOut xs w) = Q
  unfold rTail9 codeOf
  simp only [Tryz.f23, tailOf, Option.getD_some]
  subst hQ
  have kk := k {IV.zero with plus := Pe.plus xs, check := Pe.opt xs + 64, dir := Pe.dirs xs + 32, headers := Pe.headers xs} ⟨rfl, rfl, rfl, rfl, rfl, rfl⟩
  have hdirl := kk.dirl
  have hoptl := kk.optl
  have hhdl := kk.hdl
  have k0 : w2c.cell? ⟨ib, 0, none⟩ = some (.bool plus) := hBp.cell 0
  have H := Lib.hid (And.intro k (And.intro hr (And.intro hpx (And.intro hdx (And.intro kk.opt_ (And.intro kk.headers_ kk.dirs_))))))
  have HC := Lib.hid (And.intro hBp (And.intro hR (And.intro hZ (And.intro hb2 (And.intro p0 (And.intro p1 (And.intro p3 hgx.2.1)))))))
  have hgx1 := hgx.1
  have hgx2 := hgx.2.2
  clear k hr hpx hdx kk hBp hR hZ hb2 p0 p1 p3 hgx
  refine wp_seq_k fun K hK => ?_
  go_cut [10] from 17 (fun s10 wx => s10 = .int .i64 ((opt : Int) + 96) ∧ wx = w2c)
  case first =>
    go_wp2_with fail
    go_meet
    exact ⟨rfl, rfl⟩
  obtain ⟨rfl, rfl⟩ := hcut
  refine hK _ _ ?_
  clear hK K
  refine wp_seq_k fun K hK => ?_
  obtain ⟨w3c, hw3c⟩ : ∃ x, wc = x := ⟨_, rfl⟩
  rw [hw3c] at HC k0 ⊢
  clear hw3c wc
  go_cut [10] from 17 (fun s10 wx => s10 = .int .i64 (dirs : Int) ∧ wx = w3c)
  case first =>
    have hx := H.out.2.2.2.1
    cases plus
    · have hx' : (opt : Int) + 96 = (dirs : Int) := by simp at hx; omega
      clear hx
      go_wp2_with fail
      go_meet
      exact ⟨congrArg _ hx', rfl⟩
    · have hx' : (opt : Int) + 112 = (dirs : Int) := by simp at hx; omega
      clear hx
      go_wp2_with fail
      go_meet
      exact ⟨by first | rfl | exact congrArg _ hx', rfl⟩
  obtain ⟨rfl, rfl⟩ := hcut
  refine hK _ _ ?_
  clear hK K
  refine wp_seq_k fun K hK => ?_
  obtain ⟨w4c, hw4c⟩ : ∃ x, wc = x := ⟨_, rfl⟩
  rw [hw4c] at HC k0 ⊢
  clear hw4c wc
  have l2 : w4c.cell? ⟨ib, 2, none⟩ = some (.int .i64 0) := HC.out.1.cell 2
  have g2 := HC.out.1.frozen 2
  obtain ⟨w5, hw5⟩ : ∃ x, w4c.setCell ⟨ib, 2, none⟩ (.int .i64 ((dirs : Int) + 32)) = x := ⟨_, rfl⟩
  go_cut [] from 17 (fun wx => wx = w5)
  case first =>
    go_wp2_with fail
    go_meet
    first | rfl | exact hw5
  subst hcut
  refine hK _ _ ?_
  clear hK K
  have hI5 : Bi wc ib { IV.zero with plus := plus, check := opt + 64, headers := hd, dir := dirs + 32 } := by
    rw [← hw5]
    have h := HC.out.1.set_ 2 (.int .i64 ((dirs : Int) + 32))
    exact h
  have hR5 : Bi wc w.heap.size IV.zero := by rw [← hw5]; exact HC.out.2.1.far (p := ⟨ib, 2, none⟩) hne.2.1 _
  have hZ5 : Bi wc zb IV.zero := by rw [← hw5]; exact HC.out.2.2.1.far (p := ⟨ib, 2, none⟩) hne.2.2.1 _
  have sz5 : wc.heap.size = w4c.heap.size := by rw [← hw5]; simp
  have hb5 : Below w.heap.size w wc := by rw [← hw5]; exact HC.out.2.2.2.1.grown (grownBy_set w4c ⟨ib, 2, none⟩ _) (by have := HC.out.2.2.2.1.size; simpa using this) (fun k e => by cases e; exact hne.2.2.2.2)
  have hbl : ∀ j v, w4c.cell? ⟨gx, j, none⟩ = some v → wc.cell? ⟨gx, j, none⟩ = some v := fun j v hv => by rw [← hw5]; exact (World.cell?_of_block (a := ⟨gx, j, none⟩) (Below.heap_setCell _ _ _ gx hgx2)).trans hv
  exact ref_tail12 (C := { IV.zero with plus := plus, check := opt + 64, headers := hd, dir := dirs + 32 }) (H.out.1 _ ⟨H.out.2.2.1.symm, by rw [H.out.2.2.2.2.1], by rw [H.out.2.2.2.2.2.2], H.out.2.2.2.2.2.1.symm, rfl, rfl⟩) H.out.2.1 rfl rfl _ hb5 hR5 hZ5 hI5 hne ⟨hgx1, by rw [sz5]; exact HC.out.2.2.2.2.2.2.2, hgx2⟩ (hbl _ _ HC.out.2.2.2.2.1) (hbl _ _ HC.out.2.2.2.2.2.1) (hbl _ _ HC.out.2.2.2.2.2.2.1) _ _ _ _ _ _ _ _ _ _ _ _ _ _ _ _ _ _ _ _ _ _ _ _ _ _ _ _ _ _ _ _ _ _ _ _ _ _ _ _ _ _ _ _ _ _ _ _ _ _ _ _ _ _ _ _ _ _ _ _ _ _ _ _ _ _ _ _ _ _ _ _ _ _ _ _ _ _ _ _ _ _ _ _ _ _ _ _ _ _ _ _ _ _ _ _ _ _ _ _ _ _ _ _ _ _ _ _ _ _ _ _ _ _ _ _ _ _ _ _ _ _ _ _ _ _ _ _ _ _ _ _ _ _ _ _ _ _ _ _ _ _ _ _ _ _ _ _ _ _ _ _ _ _ _ _ _ _ _ _ _ _ _ _ _ _ _ _ _ _ _ _ _ _ _ _ _ _ _ _ _ _ _ _ _ _ _ _ _ _ _ _ _ _ _ _ _ _ _ _ _ _ _ _ _ _ _ _ _ _ _ _ _ _ _ _ _ _ _ _ _ _ _ _ _ _ _ _ _ _ _ _ _ _ _ _ _ _ _ _ _ _ _ _ _ _ _ _ _ _ _ _ _
set_option maxHeartbeats 4000000 in
theorem ref_tail8 {w : World} {n c zb gx cx opt dirs m size hd mg : Nat} {A : Option Addr} {xs : List UInt8} (k : ∀ C : IV, (C.plus = Pe.plus xs ∧ C.check = Pe.opt xs + 64 ∧ C.dir = Pe.dirs xs + 32 ∧ C.headers = Pe.headers xs ∧ C.table = 0 ∧ C.length = 0) → RfH xs n opt dirs m size hd C) (hmg : Pe.magic xs = mg) (hr : Rd w w.heap.size A n c xs) (w2 : World) (hb2 : Below w.heap.size w w2)
    (hR : Bi w2 w.heap.size IV.zero) (hZ : Bi w2 zb IV.zero) (hne : w.heap.size ≠ zb ∧ w.heap.size ≤ zb)
    (hgx : w.heap.size ≤ gx ∧ gx < w2.heap.size) (p0 : w2.cell? ⟨gx, 0, none⟩ = some (.int .i64 (m : Int))) (p1 : w2.cell? ⟨gx, 1, none⟩ = some (.int .i64 (size : Int))) (p2 : w2.cell? ⟨gx, 2, none⟩ = some (.int .i64 (mg : Int))) (p3 : w2.cell? ⟨gx, 3, none⟩ = some (.int .i64 (hd : Int)))
    (u1 u3 u5 u6 u9 u10 u11 u12 u13 u14 u15 u16 u17 u18 u19 u20 u21 u22 u23 u24 u25 u26 u27 u28 u29 u30 u31 u32 u33 u34 u35 u36 u37 u38 u39 u40 u41 u42 u43 u44 u45 u46 u47 u48 u49 u50 u51 u52 u53 u54 u55 u56 u57 u58 u59 u60 u61 u62 u63 u64 u65 u66 u67 u68 u69 u70 u71 u72 u73 u74 u75 u76 u77 u78 u79 u80 u81 u82 u83 u84 u85 u86 u87 u88 u89 u90 u91 u92 u93 u94 u95 u96 u97 u98 u99 u100 u101 u102 u103 u104 u105 u106 u107 u108 u109 u110 u111 u112 u113 u114 u115 u116 u117 u118 u119 u120 u121 u122 u123 u124 u125 u126 u127 u128 u129 u130 u131 u132 u133 u134 u135 u136 u137 u138 u139 u140 u141 u142 u143 u144 u145 u146 u147 u148 u149 u150 u151 u152 u153 u154 u155 u156 u157 u158 u159 u160 u161 u162 u163 u164 u165 u166 u167 u168 u169 u170 u171 u172 u173 u174 u175 u176 u177 u178 u179 u180 u181 u182 u183 u184 u185 u186 u187 u188 u189 u190 u191 u192 u193 u194 u195 u196 u197 u198 u199 u200 u201 u202 u203 u204 u205 u206 u207 u208 u209 u210 u211 u212 u213 u214 u215 u216 u217 u218 u219 u220 u221 u222 u223 u224 u225 u226 u227 u228 u229 u230 u231 u232 u233 u234 u235 u236 u237 u238 u239 u240 u241 u242 u243 u244 u245 u246 u247 u248 u249 u250 u251 u252 u253 u254 u255 u256 u257 u258 u259 : Value) :
    rTail8.wp Tryz.prog (bodyPost Tryz.prog Tryz.f23 (RefOut xs w)) { tmps := (Value.slice A n c :: u1 :: Value.pointer (some ⟨w.heap.size, 0, none⟩) :: u3 :: Value.pointer (some ⟨zb, 0, none⟩) :: u5 :: u6 :: Value.int .i64 (opt : Int) :: Value.slice (some ⟨gx, 0, none⟩) 4 cx :: u9 :: u10 :: u11 :: u12 :: u13 :: u14 :: u15 :: u16 :: u17 :: u18 :: u19 :: u20 :: u21 :: u22 :: u23 :: u24 :: u25 :: u26 :: u27 :: u28 :: u29 :: u30 :: u31 :: u32 :: u33 :: u34 :: u35 :: u36 :: u37 :: u38 :: u39 :: u40 :: u41 :: u42 :: u43 :: u44 :: u45 :: u46 :: u47 :: u48 :: u49 :: u50 :: u51 :: u52 :: u53 :: u54 :: u55 :: u56 :: u57 :: u58 :: u59 :: u60 :: u61 :: u62 :: u63 :: u64 :: u65 :: u66 :: u67 :: u68 :: u69 :: u70 :: u71 :: u72 :: u73 :: u74 :: u75 :: u76 :: u77 :: u78 :: u79 :: u80 :: u81 :: u82 :: u83 :: u84 :: u85 :: u86 :: u87 :: u88 :: u89 :: u90 :: u91 :: u92 :: u93 :: u94 :: u95 :: u96 :: u97 :: u98 :: u99 :: u100 :: u101 :: u102 :: u103 :: u104 :: u105 :: u106 :: u107 :: u108 :: u109 :: u110 :: u111 :: u112 :: u113 :: u114 :: u115 :: u116 :: u117 :: u118 :: u119 :: u120 :: u121 :: u122 :: u123 :: u124 :: u125 :: u126 :: u127 :: u128 :: u129 :: u130 :: u131 :: u132 :: u133 :: u134 :: u135 :: u136 :: u137 :: u138 :: u139 :: u140 :: u141 :: u142 :: u143 :: u144 :: u145 :: u146 :: u147 :: u148 :: u149 :: u150 :: u151 :: u152 :: u153 :: u154 :: u155 :: u156 :: u157 :: u158 :: u159 :: u160 :: u161 :: u162 :: u163 :: u164 :: u165 :: u166 :: u167 :: u168 :: u169 :: u170 :: u171 :: u172 :: u173 :: u174 :: u175 :: u176 :: u177 :: u178 :: u179 :: u180 :: u181 :: u182 :: u183 :: u184 :: u185 :: u186 :: u187 :: u188 :: u189 :: u190 :: u191 :: u192 :: u193 :: u194 :: u195 :: u196 :: u197 :: u198 :: u199 :: u200 :: u201 :: u202 :: u203 :: u204 :: u205 :: u206 :: u207 :: u208 :: u209 :: u210 :: u211 :: u212 :: u213 :: u214 :: u215 :: u216 :: u217 :: u218 :: u219 :: u220 :: u221 :: u222 :: u223 :: u224 :: u225 :: u226 :: u227 :: u228 :: u229 :: u230 :: u231 :: u232 :: u233 :: u234 :: u235 :: u236 :: u237 :: u238 :: u239 :: u240 :: u241 :: u242 :: u243 :: u244 :: u245 :: u246 :: u247 :: u248 :: u249 :: u250 :: u251 :: u252 :: u253 :: u254 :: u255 :: u256 :: u257 :: u258 :: u259 :: []).toArray, defers := [] } w2 := by
  generalize hQ : bodyPost Tryz.prog Tryz.f23 (RefOut xs w) = Q
  unfold rTail8 codeOf
  simp only [Tryz.f23, tailOf, Option.getD_some]
  subst hQ
  have hrl := hR.lt
  have hzl := hZ.lt
  have hsz2 := hb2.size
  have kk := k {IV.zero with plus := Pe.plus xs, check := Pe.opt xs + 64, dir := Pe.dirs xs + 32, headers := Pe.headers xs} ⟨rfl, rfl, rfl, rfl, rfl, rfl⟩
  have hoptl := kk.optl
  have hdirl := kk.dirl
  have hhdl := kk.hdl
  obtain ⟨plus, hplus⟩ : ∃ b, ((mg : Int) == 523) = b := ⟨_, rfl⟩
  have hpx : Pe.plus xs = plus := by
    rw [← hplus, show (523 : Int) = ((523 : Nat) : Int) from rfl, int_beq]
    unfold Pe.plus
    rw [hmg]
  have hdx : opt + (if plus then 112 else 96) = dirs := by rw [← kk.dirs_, ← kk.opt_]; unfold Pe.dirs; rw [hpx]
  have hox := kk.opt_
  have hhx := kk.headers_
  have hwh : IntKind.u32.wrap (hd : Int) = (hd : Int) := by simp only [IntKind.wrap, IntKind.bits, IntKind.signed]; simp; omega
  have hcell : ∀ W, Below w2.heap.size w2 W → W.cell? ⟨gx, 0, none⟩ = some (.int .i64 (m : Int)) ∧ W.cell? ⟨gx, 1, none⟩ = some (.int .i64 (size : Int)) ∧ W.cell? ⟨gx, 2, none⟩ = some (.int .i64 (mg : Int)) ∧ W.cell? ⟨gx, 3, none⟩ = some (.int .i64 (hd : Int)) := fun W hW =>
    ⟨(hW.cell (p := ⟨gx, 0, none⟩) hgx.2).trans p0, (hW.cell (p := ⟨gx, 1, none⟩) hgx.2).trans p1, (hW.cell (p := ⟨gx, 2, none⟩) hgx.2).trans p2, (hW.cell (p := ⟨gx, 3, none⟩) hgx.2).trans p3⟩
  have H := Lib.hid (And.intro k (And.intro hr (And.intro hb2 (And.intro hR (And.intro hZ (And.intro hcell (And.intro hpx (And.intro hdx (And.intro hox hhx)))))))))
  have HPL := Lib.hid hplus
  have HKD := Lib.hid kk.dirs_
  clear k hr hb2 hR hZ hcell hpx hdx hox hhx kk hmg p0 p1 p2 p3 hplus
  refine wp_seq_k fun K hK => ?_
  go_cut [9] from 17 (fun s9 wx => ∃ p, s9 = Value.pointer (some ⟨p, 0, none⟩) ∧ w2.heap.size ≤ p ∧ Bi wx p (RfIm plus opt hd) ∧ Below w2.heap.size w2 wx)
  case first =>
    refine wp_region_last 12 (ImJ w2.heap.size gx cx opt hd mg plus) (Below w2.heap.size w2) (fun x y => Below x.heap.size x y) rfl ImJ.mono (fun w w' h1 h2 => h1.trans (h2.mono h1.size)) (by show dstsOk _ 260 = true; decide +kernel) (by decide +kernel) (by decide +kernel) (by decide +kernel) (Below.refl _ _).drew ⟨?_, ?_, ?_, ?_, ?_, ?_, ?_, ?_, ?_, ?_, ?_, ?_, trivial⟩ ?_
    · intro a' W hfr hG hdep; refine J_of (by simp) (fun _ => rfl) ?_; have d := hfr 8 (by decide +kernel); exact F_move rfl d trivial (Below.refl _ _)
    · intro a' W hfr hG hdep; refine J_of (by simp) (fun _ => rfl) ?_; have d : a'.eval (.tmp 91) = _ := hdep 0 (by decide +kernel); refine F_val ?_ trivial (Below.refl _ _); simp only [execOp, d]; simp [go_sem, Act.eval]
    · intro a' W hfr hG hdep; refine J_of (by simp) (fun _ => rfl) ?_; have d : a'.eval (.tmp 92) = _ := hdep 1 (by decide +kernel); exact F_load rfl d (load_i64 (H.out.2.2.2.2.2.1 W hG).2.2.1) trivial (Below.refl _ _)
    · intro a' W hfr hG hdep; refine J_of (by simp) (fun _ => rfl) ?_; have d : a'.eval (.tmp 93) = .int .i64 (mg : Int) := hdep 2 (by decide +kernel); refine F_val ?_ trivial (Below.refl _ _); have hpl := HPL.out; simp only [execOp, d]; simp [go_sem, Act.eval, hpl]
    · intro a' W hfr hG hdep; refine J_of (by simp) (fun _ => rfl) ?_; have d := hfr 7 (by decide +kernel); exact F_move rfl d trivial (Below.refl _ _)
    · intro a' W hfr hG hdep; refine J_of (by simp) (fun _ => rfl) ?_; have d : a'.eval (.tmp 95) = .int .i64 (opt : Int) := hdep 4 (by decide +kernel); refine F_val ?_ trivial (Below.refl _ _); simp only [execOp, d]; simp [go_sem, Act.eval]; rw [IntKind.wrap_i64]; omega
    · intro a' W hfr hG hdep; refine J_of (by simp) (fun _ => rfl) ?_; have d := hfr 8 (by decide +kernel); exact F_move rfl d trivial (Below.refl _ _)
    · intro a' W hfr hG hdep; refine J_of (by simp) (fun _ => rfl) ?_; have d : a'.eval (.tmp 97) = _ := hdep 6 (by decide +kernel); refine F_val ?_ trivial (Below.refl _ _); simp only [execOp, d]; simp [go_sem, Act.eval]
    · intro a' W hfr hG hdep; refine J_of (by simp) (fun _ => rfl) ?_; have d : a'.eval (.tmp 98) = _ := hdep 7 (by decide +kernel); exact F_load rfl d (load_i64 (H.out.2.2.2.2.2.1 W hG).2.2.2) trivial (Below.refl _ _)
    · intro a' W hfr hG hdep; refine J_of (by simp) (fun _ => rfl) ?_; have d : a'.eval (.tmp 99) = .int .i64 (hd : Int) := hdep 8 (by decide +kernel); refine F_val ?_ trivial (Below.refl _ _); simp only [execOp, d]; simp [go_sem, Act.eval, hwh]
    · intro a' W hfr hG hdep; refine J_of (by simp) (fun _ => rfl) ?_; have b0 : a'.eval (.tmp 94) = .bool plus := hdep 3 (by decide +kernel); have b1 : a'.eval (.tmp 96) = .int .i64 ((opt + 64 : Nat) : Int) := hdep 5 (by decide +kernel); have b2 : a'.eval (.tmp 100) = .int .u32 (hd : Int) := hdep 9 (by decide +kernel); refine F_val ?_ trivial (Below.refl _ _); simp [Act.eval] at b0 b1 b2; simp only [execOp]; simp [go_sem, Act.eval, b0, b1, b2]; rfl
    · intro a' W hfr hG hdep; exact K_alloc_im rfl ⟨_, rfl, fun h => absurd h (by simp), ⟨W.heap.size, rfl, hG.size, Blk.new W _ _⟩, (Below.refl _ _).alloc (Nat.le_refl _) _⟩
    · intro o ho a' W hd' hsz hfr hG hJ
      have e1 : o.op = .store 30 (.tmp 9) (.tmp 101) ∧ o.dst = none := by cases ho; exact ⟨rfl, rfl⟩
      clear ho
      obtain ⟨p, hp, hpl, hpz⟩ : ∃ p, a'.eval (.tmp 9) = .pointer (some ⟨p, 0, none⟩) ∧ w2.heap.size ≤ p ∧ Bi W p IV.zero := hJ 11 (by decide)
      have hv : a'.eval (.tmp 101) = .agg (RfIm plus opt hd).cells := hJ 10 (by decide)
      refine wp_store_im _ _ e1.1 p IV.zero _ hp hv hpz ⟨⟨_, _, _, rfl⟩, ⟨_, _, _, rfl⟩⟩ ?_
      intro w' hB' hg'
      rw [e1.2]
      have hfin : Below w2.heap.size w2 w' := hG.grown hg' hG.size (fun j e => by injection e with e; omega)
      have HF := Lib.hid (And.intro hpl (And.intro hB' hfin))
      obtain ⟨vs, hvs, e⟩ := act_of_some (by show dstsOk _ 260 = true; decide +kernel) hd' hsz hfr
      have h11 : vs 11 = .pointer (some ⟨p, 0, none⟩) := (hvs 11).symm.trans hp
      clear hJ hfr hd' hsz hG hvs hp hv hpz hB' hg' hfin e1
      have hrg : List.range 13 = [0, 1, 2, 3, 4, 5, 6, 7, 8, 9, 10, 11, 12] := rfl
      simp only [layAll, List.map_cons, List.map_nil, List.size_toArray, List.length_cons, List.length_nil, Nat.reduceAdd, hrg, List.zip_cons_cons, List.zip_nil_left, List.foldl_cons, List.foldl_nil, Act.put, List.setIfInBounds_toArray, List.set_cons_zero, List.set_cons_succ] at e
      subst e
      clear hrg
      apply_assumption
      go_meet
      exact ⟨p, h11, HF.out.1, HF.out.2.1, HF.out.2.2⟩
  obtain ⟨ib, rfl, hib, hBp, hb⟩ := hcut
  refine hK _ _ ?_
  clear hK K
  have hRc := H.out.2.2.2.1.below hb hrl
  have hZc := H.out.2.2.2.2.1.below hb hzl
  have hbc := H.out.2.2.1.trans (hb.mono hsz2)
  have hcl := H.out.2.2.2.2.2.1 wc hb
  have hszc := hb.size
  exact ref_tail9 H.out.1 H.out.2.1 H.out.2.2.2.2.2.2.1 H.out.2.2.2.2.2.2.2.1 _ hbc hRc hZc hBp ⟨hne.1, by omega, by omega, hne.2, by omega⟩ ⟨hgx.1, by omega, by omega⟩ hcl.1 hcl.2.1 hcl.2.2.2 _ _ _ _ _ _ _ _ _ _ _ _ _ _ _ _ _ _ _ _ _ _ _ _ _ _ _ _ _ _ _ _ _ _ _ _ _ _ _ _ _ _ _ _ _ _ _ _ _ _ _ _ _ _ _ _ _ _ _ _ _ _ _ _ _ _ _ _ _ _ _ _ _ _ _ _ _ _ _ _ _ _ _ _ _ _ _ _ _ _ _ _ _ _ _ _ _ _ _ _ _ _ _ _ _ _ _ _ _ _ _ _ _ _ _ _ _ _ _ _ _ _ _ _ _ _ _ _ _ _ _ _ _ _ _ _ _ _ _ _ _ _ _ _ _ _ _ _ _ _ _ _ _ _ _ _ _ _ _ _ _ _ _ _ _ _ _ _ _ _ _ _ _ _ _ _ _ _ _ _ _ _ _ _ _ _ _ _ _ _ _ _ _ _ _ _ _ _ _ _ _ _ _ _ _ _ _ _ _ _ _ _ _ _ _ _ _ _ _ _ _ _ _ _ _ _ _ _ _ _ _ _ _ _ _ _ _ _ _ _ _ _ _ _ _ _ _ _ _ _ _ _ _ _
end Go.Proofs.YtmpladnglfiejaaGreatDoor
end

section
/- The reference's Parse: from its beginning. -/
namespace Go.Proofs.YtmpladnglfiejaaGreatDoor
open Go.RowKit
set_option maxRecDepth 100000
set_option linter.unusedVariables false
set_option linter.unusedSimpArgs false
namespace Pe
theorem num4_eq : ∀ (l : List UInt8), l.length = 4 → (num l == 17744) = eqB l [80, 69, 0, 0]
  | [a, b, c, d], _ => by
    have ha := a.toNat_lt
    have hb := b.toNat_lt
    have hc := c.toNat_lt
    have hd := d.toNat_lt
    unfold eqB
    rw [Bool.eq_iff_iff, beq_iff_eq, beq_iff_eq]
    constructor
    · intro h
      simp only [num] at h
      have h1 : a = 80 := UInt8.toNat_inj.1 (by show a.toNat = 80; omega)
      have h2 : b = 69 := UInt8.toNat_inj.1 (by show b.toNat = 69; omega)
      have h3 : c = 0 := UInt8.toNat_inj.1 (by show c.toNat = 0; omega)
      have h4 : d = 0 := UInt8.toNat_inj.1 (by show d.toNat = 0; omega)
      rw [h1, h2, h3, h4]
    · intro h
      injection h with h1 h
      injection h with h2 h
      injection h with h3 h
      injection h with h4 h
      subst h1 h2 h3 h4
      rfl
theorem pe_sign (xs : List UInt8) (p : Nat) : (inb xs p 4 && eqB ((xs.drop p).take 4) [80, 69, 0, 0]) = (inb xs p 4 && (at_ xs p 4 == 17744)) := by
  unfold inb at_
  by_cases h : p + 4 ≤ xs.length
  · rw [if_pos h, num4_eq _ (by simp; omega)]
  · rw [decide_eq_false h]; rfl
theorem mz_sign (xs : List UInt8) (h : 64 ≤ xs.length) : (inb xs 0 2 && eqB ((xs.drop 0).take 2) [77, 90]) = begins xs := by
  unfold inb begins eqB
  rw [decide_eq_true (by omega), Bool.true_and, List.drop_zero]
theorem first_head {xs : List UInt8} (h : first xs = false) : head xs = false := by unfold head; rw [h]; rfl
theorem second_head {xs : List UInt8} (h : second xs = false) : head xs = false := by unfold head; rw [h, Bool.and_false, Bool.false_and]
theorem io_head {xs : List UInt8} (h : inb xs (opt xs + 60) 4 = false) : head xs = false := by unfold head third; rw [h, Bool.and_false, Bool.false_and, Bool.and_false]
end Pe
set_option maxHeartbeats 4000000 in
theorem refParse_any (A : Option Addr) (n c : Nat) (xs : List UInt8) (w : World) (h : Rd w w.heap.size A n c xs) (hn : n ≤ 16777216) : Calls Tryz.prog 23 #[.slice A n c] w (RefOut xs w) := by
  have hl := h.len
  have H := Lib.hid h
  clear h
  obtain ⟨w1, hw1⟩ : ∃ x, w.alloc (.cells #[.bool false, .int .i64 0, .int .i64 0, .int .u32 0, .slice none 0 0, .int .u32 0, .int .u32 0, .slice none 0 0] 30) = x := ⟨_, rfl⟩
  have hB1 : Bi w1 w.heap.size IV.zero := by rw [← hw1]; exact Blk.new w _ _
  have hb1 : Below w.heap.size w w1 := by rw [← hw1]; exact (Below.refl _ _).alloc (Nat.le_refl _) _
  have hs1 : w1.heap.size = w.heap.size + 1 := by rw [← hw1]; simp
  have H1 := Lib.hid (And.intro hB1 hb1)
  clear hB1 hb1
  go_enter Tryz.func23, Tryz.ntmps23
  go_upto_region 1 with fail
  clear hw1
  have hnb : ¬ (16777216 : Int) < n := by omega
  have HS1 := Lib.hid hs1
  clear hs1
  go_upto_region 2 with fail
  have hs1 := HS1.out
  obtain ⟨zb, hzb⟩ : ∃ z, w1.heap.size = z := ⟨_, rfl⟩
  obtain ⟨w2, hw2⟩ : ∃ x, w1.alloc (.cells #[.bool false, .int .i64 0, .int .i64 0, .int .u32 0, .slice none 0 0, .int .u32 0, .int .u32 0, .slice none 0 0] 30) = x := ⟨_, rfl⟩
  have hBz : Bi w2 zb IV.zero := by rw [← hw2, ← hzb]; exact Blk.new w1 _ _
  have hb12 : Below w1.heap.size w1 w2 := by rw [← hw2]; exact (Below.refl _ _).alloc (Nat.le_refl _) _
  rw [hw2, hzb]
  clear hw2
  go_upto_region 4 with fail
  have hzl : zb < w2.heap.size := hBz.lt
  have hB2 : Bi w2 w.heap.size IV.zero := H1.out.1.below hb12 (by omega)
  have hb2 : Below w.heap.size w w2 := H1.out.2.trans (hb12.mono (by omega))
  have hsz2 := hb2.size
  have hnum := numberR_any A n c 60 4 60 4 xs w2 ((H.out.below hb2).more hsz2) (by omega) rfl rfl (by omega) (.inr (.inr rfl))
  obtain ⟨i60, hi60⟩ : ∃ b, Pe.inb xs 60 4 = b := ⟨_, rfl⟩
  obtain ⟨pe, hpe⟩ : ∃ N, Pe.at_ xs 60 4 = N := ⟨_, rfl⟩
  have hpel : pe < 4294967296 := by rw [← hpe]; exact Pe.at_lt4 _ _
  rw [hi60, hpe] at hnum
  have H2 := Lib.hid (And.intro hB2 (And.intro hBz (And.intro hb2 (And.intro hnum (And.intro hi60 hpe)))))
  clear hB2 hBz hb2 hb12 hnum hi60 hpe
  go_wp2_with fail
  refine H2.out.2.2.2.1.mono ?_
  rintro e w3 ⟨rfl, hb23⟩
  have hrl := H2.out.1.lt
  have hbw3 : Below w.heap.size w w3 := H2.out.2.2.1.trans (hb23.mono hsz2)
  have H3 := Lib.hid (And.intro (H2.out.1.below hb23 hrl) (And.intro (H2.out.2.1.below hb23 hzl) hbw3))
  have hs23 := hb23.size
  have hfirst : Pe.first xs = (i60 && (decide (64 ≤ pe) && Pe.begins xs && (Pe.inb xs pe 4 && (Pe.at_ xs pe 4 == 17744)))) := by
    unfold Pe.first Pe.pe
    rw [H2.out.2.2.2.2.1, H2.out.2.2.2.2.2]
  have HF := Lib.hid hfirst
  clear hb23 hbw3 hfirst
  cases i60
  · have hhf : Pe.head xs = false := Pe.first_head (by rw [HF.out]; rfl)
    have HE := Lib.hid (And.intro (Pe.err9 (by rw [hl]; exact hn) hhf) (And.intro H3.out.2.1 (And.intro H3.out.1 H3.out.2.2)))
    clear hhf
    go_wp2_with (first
          | ((with_reducible refine at_load_img ?_); refine wpList_load_img rfl _ rfl zb IV.zero rfl HE.out.2.1 ?_)
          | ((with_reducible refine at_store_img ?_); refine wpList_store_img rfl _ _ rfl w.heap.size IV.zero IV.zero rfl rfl HE.out.2.2.1 IV.zero_one ?_; intro wz hBz hgz)
          | fail)
    refine bodyPost_ret (results_cellTmp Tryz.results23 _ _ _ _ _ rfl (load_img hBz)) rfl ⟨HE.out.2.2.2.grown hgz HE.out.2.2.2.size (fun j e => by cases e; exact Nat.le_refl _), IV.zero, ?_, IV.zero_one, fun _ => rfl, fun h => absurd (HE.out.1.symm.trans h) (by decide)⟩
    rw [HE.out.1]; rfl
  have hn64 : 64 ≤ n := by have h1 := H2.out.2.2.2.2.1; unfold Pe.inb at h1; simp at h1; omega
  have hmz := beginsR_any A n c 0 0 xs [77, 90] w3 ((H.out.below H3.out.2.2).more H3.out.2.2.size) (by omega) rfl (by omega) (by decide) (.string { data := #[77, 90] }) rfl
  rw [show ([77, 90] : List UInt8).length = 2 from rfl, Pe.mz_sign xs (by omega)] at hmz
  obtain ⟨bmz, hbmz⟩ : ∃ b, Pe.begins xs = b := ⟨_, rfl⟩
  rw [hbmz] at hmz
  have H4 := Lib.hid (And.intro hmz hbmz)
  clear hmz hbmz
  go_wp2_with fail
  refine H4.out.1.mono ?_
  rintro e w4 ⟨rfl, hb34⟩
  have H5 := Lib.hid (And.intro (H3.out.1.below hb34 (by omega)) (And.intro (H3.out.2.1.below hb34 (by omega)) (H3.out.2.2.trans (hb34.mono (by omega)))))
  have hs34 := hb34.size
  clear hb34
  cases bmz
  · have hhf : Pe.head xs = false := Pe.first_head (by rw [HF.out, H4.out.2]; simp)
    have HE := Lib.hid (And.intro (Pe.err9 (by rw [hl]; exact hn) hhf) (And.intro H5.out.2.1 (And.intro H5.out.1 H5.out.2.2)))
    clear hhf
    go_wp2_with (first
          | ((with_reducible refine at_load_img ?_); refine wpList_load_img rfl _ rfl zb IV.zero rfl HE.out.2.1 ?_)
          | ((with_reducible refine at_store_img ?_); refine wpList_store_img rfl _ _ rfl w.heap.size IV.zero IV.zero rfl rfl HE.out.2.2.1 IV.zero_one ?_; intro wz hBz hgz)
          | fail)
    refine bodyPost_ret (results_cellTmp Tryz.results23 _ _ _ _ _ rfl (load_img hBz)) rfl ⟨HE.out.2.2.2.grown hgz HE.out.2.2.2.size (fun j e => by cases e; exact Nat.le_refl _), IV.zero, ?_, IV.zero_one, fun _ => rfl, fun h => absurd (HE.out.1.symm.trans h) (by decide)⟩
    rw [HE.out.1]; rfl
  by_cases h64 : pe < 64
  · have h64' : (pe : Int) < 64 := by omega
    have hhf : Pe.head xs = false := Pe.first_head (by rw [HF.out, decide_eq_false (by omega : ¬ 64 ≤ pe)]; simp)
    have HE := Lib.hid (And.intro (Pe.err9 (by rw [hl]; exact hn) hhf) (And.intro H5.out.2.1 (And.intro H5.out.1 H5.out.2.2)))
    clear hhf
    go_wp2_with (first
          | ((with_reducible refine at_load_img ?_); refine wpList_load_img rfl _ rfl zb IV.zero rfl HE.out.2.1 ?_)
          | ((with_reducible refine at_store_img ?_); refine wpList_store_img rfl _ _ rfl w.heap.size IV.zero IV.zero rfl rfl HE.out.2.2.1 IV.zero_one ?_; intro wz hBz hgz)
          | fail)
    refine bodyPost_ret (results_cellTmp Tryz.results23 _ _ _ _ _ rfl (load_img hBz)) rfl ⟨HE.out.2.2.2.grown hgz HE.out.2.2.2.size (fun j e => by cases e; exact Nat.le_refl _), IV.zero, ?_, IV.zero_one, fun _ => rfl, fun h => absurd (HE.out.1.symm.trans h) (by decide)⟩
    rw [HE.out.1]; rfl
  have h64' : ¬ (pe : Int) < 64 := by omega
  have hpp := beginsR_any A n c pe (pe : Int) xs [80, 69, 0, 0] w4 ((H.out.below H5.out.2.2).more H5.out.2.2.size) (by omega) rfl (by omega) (by decide) (.string { data := #[80, 69, 0, 0] }) rfl
  rw [show ([80, 69, 0, 0] : List UInt8).length = 4 from rfl, Pe.pe_sign] at hpp
  obtain ⟨bpe, hbpe⟩ : ∃ b, (Pe.inb xs pe 4 && (Pe.at_ xs pe 4 == 17744)) = b := ⟨_, rfl⟩
  rw [hbpe] at hpp
  have H6 := Lib.hid (And.intro hpp hbpe)
  clear hpp hbpe
  go_wp2_with fail
  refine H6.out.1.mono ?_
  rintro e w5 ⟨rfl, hb45⟩
  have H7 := Lib.hid (And.intro (H5.out.1.below hb45 (by omega)) (And.intro (H5.out.2.1.below hb45 (by omega)) (H5.out.2.2.trans (hb45.mono (by omega)))))
  have hs45 := hb45.size
  clear hb45
  cases bpe
  · have hhf : Pe.head xs = false := Pe.first_head (by rw [HF.out, H6.out.2]; simp)
    have HE := Lib.hid (And.intro (Pe.err9 (by rw [hl]; exact hn) hhf) (And.intro H7.out.2.1 (And.intro H7.out.1 H7.out.2.2)))
    clear hhf
    go_wp2_with (first
          | ((with_reducible refine at_load_img ?_); refine wpList_load_img rfl _ rfl zb IV.zero rfl HE.out.2.1 ?_)
          | ((with_reducible refine at_store_img ?_); refine wpList_store_img rfl _ _ rfl w.heap.size IV.zero IV.zero rfl rfl HE.out.2.2.1 IV.zero_one ?_; intro wz hBz hgz)
          | fail)
    refine bodyPost_ret (results_cellTmp Tryz.results23 _ _ _ _ _ rfl (load_img hBz)) rfl ⟨HE.out.2.2.2.grown hgz HE.out.2.2.2.size (fun j e => by cases e; exact Nat.le_refl _), IV.zero, ?_, IV.zero_one, fun _ => rfl, fun h => absurd (HE.out.1.symm.trans h) (by decide)⟩
    rw [HE.out.1]; rfl
  have hfirst : Pe.first xs = true := by rw [HF.out, H4.out.2, H6.out.2, decide_eq_true (by omega : 64 ≤ pe)]; rfl
  have hpx : Pe.pe xs = pe := H2.out.2.2.2.2.2
  obtain ⟨opt, hopt⟩ : ∃ o, pe + 24 = o := ⟨_, rfl⟩
  have hoi : (pe : Int) + 24 = (opt : Int) := by omega
  have hox : Pe.opt xs = opt := by unfold Pe.opt; rw [hpx, hopt]
  obtain ⟨m, hm⟩ : ∃ N, Pe.at_ xs (pe + 6) 2 = N := ⟨_, rfl⟩
  obtain ⟨sz, hsz⟩ : ∃ N, Pe.at_ xs (pe + 20) 2 = N := ⟨_, rfl⟩
  obtain ⟨mg, hmg⟩ : ∃ N, Pe.at_ xs opt 2 = N := ⟨_, rfl⟩
  obtain ⟨hd, hhd⟩ : ∃ N, Pe.at_ xs (opt + 60) 4 = N := ⟨_, rfl⟩
  have hml : m < 65536 := by rw [← hm]; exact Pe.at_lt2 _ _
  have hszl : sz < 65536 := by rw [← hsz]; exact Pe.at_lt2 _ _
  have hmgl : mg < 65536 := by rw [← hmg]; exact Pe.at_lt2 _ _
  have hhdl : hd < 4294967296 := by rw [← hhd]; exact Pe.at_lt4 _ _
  have hmap : ([(pe + 6, 2), (pe + 20, 2), (opt, 2), (opt + 60, 4)].map fun p : Nat × Nat => Pe.at_ xs p.1 p.2).map natV = [.int .i64 (m : Int), .int .i64 (sz : Int), .int .i64 (mg : Int), .int .i64 (hd : Int)] := by
    simp only [List.map_cons, List.map_nil, hm, hsz, hmg, hhd, natV]
  have hmx : Pe.many xs = m := by unfold Pe.many; rw [hpx, hm]
  have hsx : Pe.size xs = sz := by unfold Pe.size; rw [hpx, hsz]
  have hgx : Pe.magic xs = mg := by unfold Pe.magic; rw [hox, hmg]
  have hhx : Pe.headers xs = hd := by unfold Pe.headers; rw [hox, hhd]
  have hsecond : Pe.second xs = (Pe.inb xs (pe + 6) 2 && Pe.inb xs (pe + 20) 2 && Pe.inb xs opt 2 && (decide (1 ≤ m) && decide (m ≤ 96) && (mg == 523 || mg == 267))) := by
    unfold Pe.second
    rw [hpx, hox, hmx, hgx]
  obtain ⟨W1, hW1⟩ : ∃ W1, w5.alloc (.cells #[.int .i64 ((pe : Int) + 6), .int .i64 2, .int .i64 ((pe : Int) + 20), .int .i64 2, .int .i64 (opt : Int), .int .i64 2, .int .i64 ((opt : Int) + 60), .int .i64 4] 39) = W1 := ⟨_, rfl⟩
  have hps : ([(pe + 6, 2), (pe + 20, 2), (opt, 2), (opt + 60, 4)].flatMap pairC).toArray = #[.int .i64 ((pe : Int) + 6), .int .i64 2, .int .i64 ((pe : Int) + 20), .int .i64 2, .int .i64 (opt : Int), .int .i64 2, .int .i64 ((opt : Int) + 60), .int .i64 4] := by
    simp [pairC]
  have hB1 : Blk W1 w5.heap.size 39 ([(pe + 6, 2), (pe + 20, 2), (opt, 2), (opt + 60, 4)].flatMap pairC).toArray := by
    rw [← hW1, hps]
    exact Blk.new w5 _ _
  have hb1 : Below w.heap.size w W1 := by rw [← hW1]; exact H7.out.2.2.alloc H7.out.2.2.size _
  have hb51 : Below w5.heap.size w5 W1 := by rw [← hW1]; exact (Below.refl _ _).alloc (Nat.le_refl _) _
  have hs1W : W1.heap.size = w5.heap.size + 1 := by rw [← hW1]; simp
  have hnum := numbersR_any A n c w5.heap.size 4 xs [(pe + 6, 2), (pe + 20, 2), (opt, 2), (opt + 60, 4)] W1 ((H.out.below hb1).more hb1.size) (by omega) hB1 rfl (by omega) (by
    intro q hq
    simp only [List.mem_cons, List.not_mem_nil, or_false] at hq
    rcases hq with rfl | rfl | rfl | rfl
    · exact ⟨by dsimp only; omega, .inr (.inl rfl)⟩
    · exact ⟨by dsimp only; omega, .inr (.inl rfl)⟩
    · exact ⟨by dsimp only; omega, .inr (.inl rfl)⟩
    · exact ⟨by dsimp only; omega, .inr (.inr rfl)⟩)
  obtain ⟨b, hb⟩ : ∃ b, (([(pe + 6, 2), (pe + 20, 2), (opt, 2), (opt + 60, 4)] : List (Nat × Nat)).all fun p => Pe.inb xs p.1 p.2) = b := ⟨_, rfl⟩
  rw [hb, hmap] at hnum
  have hbx : b = (Pe.inb xs (pe + 6) 2 && (Pe.inb xs (pe + 20) 2 && (Pe.inb xs opt 2 && Pe.inb xs (opt + 60) 4))) := by
    rw [← hb]; simp only [List.all_cons, List.all_nil, Bool.and_true]
  have hdx : Pe.dirs xs = opt + if mg == 523 then 112 else 96 := by unfold Pe.dirs Pe.plus; rw [hox, hgx]
  have H8 := Lib.hid (And.intro hnum (And.intro hb1 (And.intro hb51 (And.intro hbx (And.intro hsecond (And.intro hfirst (And.intro hox (And.intro hmx (And.intro hsx (And.intro hgx (And.intro hhx hdx)))))))))))
  have hopl : opt ≤ 4294967400 := by omega
  clear hnum hb1 hb51 hbx hsecond hfirst hox hmx hsx hgx hhx hdx hB1 hps hmap hb hm hsz hmg hhd hpx hopt
  go_upto_region 8 with fail
  go_cut [6, 8] from 17 (fun s6 s8 wx => s6 = .bool b ∧ Below W1.heap.size W1 wx ∧ (b = true → OwnC 3 1 wx W1.heap.size wx.heap.size s8 4 [.int .i64 (m : Int), .int .i64 (sz : Int), .int .i64 (mg : Int), .int .i64 (hd : Int)]))
  case first =>
    go_wp2_with fail
    refine H8.out.1.mono ?_
    rintro e w6 ⟨hbn, v, rfl, hv⟩
    clear hW1
    have HV := Lib.hid (And.intro hbn hv)
    clear hbn hv
    go_wp2_with fail
    go_meet
    exact ⟨rfl, HV.out.1, HV.out.2⟩
  obtain ⟨rfl, hbn, hv⟩ := hcut
  apply_assumption
  refine wp_seq_k fun K hK => ?_
  obtain ⟨w6, hw6'⟩ : ∃ x, wc = x := ⟨_, rfl⟩
  rw [hw6'] at hbn hv ⊢
  clear hw6' wc hW1
  have hw6 : Below w.heap.size w w6 := H8.out.2.1.trans (hbn.mono H8.out.2.1.size)
  have h56 : Below w5.heap.size w5 w6 := H8.out.2.2.1.trans (hbn.mono (by omega))
  have H9 := Lib.hid (And.intro (H7.out.1.below h56 (by omega)) (And.intro (H7.out.2.1.below h56 (by omega)) hw6))
  have hs56 := h56.size
  have HV := Lib.hid hv
  clear hbn hw6 h56 hv
  obtain ⟨s8, hs8⟩ : ∃ x, u8 = x := ⟨_, rfl⟩
  rw [hs8] at HV ⊢
  clear hs8
  have HHS := Lib.hid (And.intro hs56 trivial)
  go_cut [] from 17 (fun wx => wx = w6 ∧ b = true ∧ 1 ≤ m ∧ m ≤ 96 ∧ (mg = 267 ∨ mg = 523))
  case first =>
    cases b
    · have hhf : Pe.head xs = false := by
        cases hq : Pe.second xs with
        | false => exact Pe.second_head hq
        | true =>
          have h1 := H8.out.2.2.2.2.1
          rw [hq] at h1
          have h2 := H8.out.2.2.2.1
          refine Pe.io_head ?_
          rw [H8.out.2.2.2.2.2.2.1]
          cases hi : Pe.inb xs (opt + 60) 4 with
          | false => rfl
          | true =>
            rw [hi] at h2
            revert h1 h2
            cases Pe.inb xs (pe + 6) 2 <;> cases Pe.inb xs (pe + 20) 2 <;> cases Pe.inb xs opt 2 <;> simp
      have HE := Lib.hid (And.intro (Pe.err9 (by rw [hl]; exact hn) hhf) (And.intro H9.out.2.1 (And.intro H9.out.1 H9.out.2.2)))
      clear hhf
      skip
      go_wp2_with (first
            | ((with_reducible refine at_load_img ?_); refine wpList_load_img rfl _ rfl zb IV.zero rfl HE.out.2.1 ?_)
            | ((with_reducible refine at_store_img ?_); refine wpList_store_img rfl _ _ rfl w.heap.size IV.zero IV.zero rfl rfl HE.out.2.2.1 IV.zero_one ?_; intro wz hBz hgz)
            | fail)
      refine bodyPost_ret (results_cellTmp Tryz.results23 _ _ _ _ _ rfl (load_img hBz)) rfl ⟨HE.out.2.2.2.grown hgz HE.out.2.2.2.size (fun j e => by cases e; exact Nat.le_refl _), IV.zero, ?_, IV.zero_one, fun _ => rfl, fun h => absurd (HE.out.1.symm.trans h) (by decide)⟩
      rw [HE.out.1]; rfl
    have hown := HV.out (by first | rfl | trivial)
    obtain ⟨gx, cx, ex, _, _⟩ := hown.1.form (by omega)
    have hgx := hown.2 gx (by rw [ex]; rfl)
    have hgx0 : W1.heap.size ≤ gx := (hown.1.lt gx (by rw [ex]; rfl)).1
    subst ex
    have p0 : w6.cell? ⟨gx, 0, none⟩ = some (.int .i64 (m : Int)) := hown.1.cellAt 0 (by omega)
    have p1 : w6.cell? ⟨gx, 1, none⟩ = some (.int .i64 (sz : Int)) := hown.1.cellAt 1 (by omega)
    have p2 : w6.cell? ⟨gx, 2, none⟩ = some (.int .i64 (mg : Int)) := hown.1.cellAt 2 (by omega)
    have p3 : w6.cell? ⟨gx, 3, none⟩ = some (.int .i64 (hd : Int)) := hown.1.cellAt 3 (by omega)
    have HP := Lib.hid (And.intro p1 p3)
    have hall : Pe.inb xs (pe + 6) 2 = true ∧ Pe.inb xs (pe + 20) 2 = true ∧ Pe.inb xs opt 2 = true ∧ Pe.inb xs (opt + 60) 4 = true := by
      have h1 := H8.out.2.2.2.1
      simpa only [Bool.and_eq_true] using h1.symm
    have hs2 : Pe.second xs = (decide (1 ≤ m) && decide (m ≤ 96) && (mg == 523 || mg == 267)) := by
      rw [H8.out.2.2.2.2.1, hall.1, hall.2.1, hall.2.2.1]; rfl
    have HA := Lib.hid (And.intro hall hs2)
    clear hown p1 p3 hall hs2
    by_cases m1 : m < 1
    · have m1' : (m : Int) < 1 := by omega
      have hhf : Pe.head xs = false := Pe.second_head (by rw [HA.out.2, decide_eq_false (by omega : ¬ 1 ≤ m)]; rfl)
      have HE := Lib.hid (And.intro (Pe.err9 (by rw [hl]; exact hn) hhf) (And.intro H9.out.2.1 (And.intro H9.out.1 H9.out.2.2)))
      clear hhf
      go_wp2_with (first
            | ((with_reducible refine at_load_img ?_); refine wpList_load_img rfl _ rfl zb IV.zero rfl HE.out.2.1 ?_)
            | ((with_reducible refine at_store_img ?_); refine wpList_store_img rfl _ _ rfl w.heap.size IV.zero IV.zero rfl rfl HE.out.2.2.1 IV.zero_one ?_; intro wz hBz hgz)
            | fail)
      refine bodyPost_ret (results_cellTmp Tryz.results23 _ _ _ _ _ rfl (load_img hBz)) rfl ⟨HE.out.2.2.2.grown hgz HE.out.2.2.2.size (fun j e => by cases e; exact Nat.le_refl _), IV.zero, ?_, IV.zero_one, fun _ => rfl, fun h => absurd (HE.out.1.symm.trans h) (by decide)⟩
      rw [HE.out.1]; rfl
    have m1' : ¬ (m : Int) < 1 := by omega
    by_cases m2 : 96 < m
    · have m2' : (96 : Int) < m := by omega
      have hhf : Pe.head xs = false := Pe.second_head (by rw [HA.out.2, decide_eq_false (by omega : ¬ m ≤ 96)]; simp)
      have HE := Lib.hid (And.intro (Pe.err9 (by rw [hl]; exact hn) hhf) (And.intro H9.out.2.1 (And.intro H9.out.1 H9.out.2.2)))
      clear hhf
      go_wp2_with (first
            | ((with_reducible refine at_load_img ?_); refine wpList_load_img rfl _ rfl zb IV.zero rfl HE.out.2.1 ?_)
            | ((with_reducible refine at_store_img ?_); refine wpList_store_img rfl _ _ rfl w.heap.size IV.zero IV.zero rfl rfl HE.out.2.2.1 IV.zero_one ?_; intro wz hBz hgz)
            | fail)
      refine bodyPost_ret (results_cellTmp Tryz.results23 _ _ _ _ _ rfl (load_img hBz)) rfl ⟨HE.out.2.2.2.grown hgz HE.out.2.2.2.size (fun j e => by cases e; exact Nat.le_refl _), IV.zero, ?_, IV.zero_one, fun _ => rfl, fun h => absurd (HE.out.1.symm.trans h) (by decide)⟩
      rw [HE.out.1]; rfl
    have m2' : ¬ (96 : Int) < m := by omega
    by_cases g1 : mg = 267
    · have c1 : ((mg : Int) != 267) = false := by simp; omega
      have G1 := Lib.hid g1
      clear g1
      go_wp2_with fail
      go_meet
      exact ⟨rfl, rfl, by omega, by omega, .inl G1.out⟩
    have c1 : ((mg : Int) != 267) = true := by simp; omega
    by_cases g2 : mg = 523
    · have c2 : ((mg : Int) != 523) = false := by simp; omega
      have G2 := Lib.hid g2
      clear g2
      go_wp2_with fail
      go_meet
      exact ⟨rfl, rfl, by omega, by omega, .inr G2.out⟩
    have c2 : ((mg : Int) != 523) = true := by simp; omega
    have hhf : Pe.head xs = false := Pe.second_head (by rw [HA.out.2]; simp; omega)
    have HE := Lib.hid (And.intro (Pe.err9 (by rw [hl]; exact hn) hhf) (And.intro H9.out.2.1 (And.intro H9.out.1 H9.out.2.2)))
    clear hhf
    go_wp2_with (first
          | ((with_reducible refine at_load_img ?_); refine wpList_load_img rfl _ rfl zb IV.zero rfl HE.out.2.1 ?_)
          | ((with_reducible refine at_store_img ?_); refine wpList_store_img rfl _ _ rfl w.heap.size IV.zero IV.zero rfl rfl HE.out.2.2.1 IV.zero_one ?_; intro wz hBz hgz)
          | fail)
    refine bodyPost_ret (results_cellTmp Tryz.results23 _ _ _ _ _ rfl (load_img hBz)) rfl ⟨HE.out.2.2.2.grown hgz HE.out.2.2.2.size (fun j e => by cases e; exact Nat.le_refl _), IV.zero, ?_, IV.zero_one, fun _ => rfl, fun h => absurd (HE.out.1.symm.trans h) (by decide)⟩
    rw [HE.out.1]; rfl
  obtain ⟨rfl, rfl, m1, m2, hg⟩ := hcut
  refine hK _ _ ?_
  have hown := HV.out (by first | rfl | trivial)
  obtain ⟨gx, cx, ex, _, _⟩ := hown.1.form (by omega)
  have hgx := hown.2 gx (by rw [ex]; rfl)
  have hgx0 : W1.heap.size ≤ gx := (hown.1.lt gx (by rw [ex]; rfl)).1
  subst ex
  have p0 : wc.cell? ⟨gx, 0, none⟩ = some (.int .i64 (m : Int)) := hown.1.cellAt 0 (by omega)
  have p1 : wc.cell? ⟨gx, 1, none⟩ = some (.int .i64 (sz : Int)) := hown.1.cellAt 1 (by omega)
  have p2 : wc.cell? ⟨gx, 2, none⟩ = some (.int .i64 (mg : Int)) := hown.1.cellAt 2 (by omega)
  have p3 : wc.cell? ⟨gx, 3, none⟩ = some (.int .i64 (hd : Int)) := hown.1.cellAt 3 (by omega)
  have HP := Lib.hid (And.intro p1 p3)
  have hall : Pe.inb xs (pe + 6) 2 = true ∧ Pe.inb xs (pe + 20) 2 = true ∧ Pe.inb xs opt 2 = true ∧ Pe.inb xs (opt + 60) 4 = true := by
    have h1 := H8.out.2.2.2.1
    simpa only [Bool.and_eq_true] using h1.symm
  have hs2 : Pe.second xs = (decide (1 ≤ m) && decide (m ≤ 96) && (mg == 523 || mg == 267)) := by
    rw [H8.out.2.2.2.2.1, hall.1, hall.2.1, hall.2.2.1]; rfl
  have HA := Lib.hid (And.intro hall hs2)
  clear hown p1 p3 hall hs2
  exact ref_tail8 (mg := mg) (dirs := opt + if mg == 523 then 112 else 96) (fun C hC => ⟨hl, hn, H8.out.2.2.2.2.2.1, by rw [HA.out.2]; simp; omega, HA.out.1.2.2.2, H8.out.2.2.2.2.2.2.1, H8.out.2.2.2.2.2.2.2.2.2.2.2, H8.out.2.2.2.2.2.2.2.1, H8.out.2.2.2.2.2.2.2.2.1, H8.out.2.2.2.2.2.2.2.2.2.2.1, hC, hopl, by split <;> omega, by omega, hszl, hhdl⟩) H8.out.2.2.2.2.2.2.2.2.2.1 H.out _ H9.out.2.2 H9.out.1 H9.out.2.1 ⟨by omega, by omega⟩ ⟨by omega, hgx⟩ p0 HP.out.1 p2 HP.out.2 _ _ _ _ _ _ _ _ _ _ _ _ _ _ _ _ _ _ _ _ _ _ _ _ _ _ _ _ _ _ _ _ _ _ _ _ _ _ _ _ _ _ _ _ _ _ _ _ _ _ _ _ _ _ _ _ _ _ _ _ _ _ _ _ _ _ _ _ _ _ _ _ _ _ _ _ _ _ _ _ _ _ _ _ _ _ _ _ _ _ _ _ _ _ _ _ _ _ _ _ _ _ _ _ _ _ _ _ _ _ _ _ _ _ _ _ _ _ _ _ _ _ _ _ _ _ _ _ _ _ _ _ _ _ _ _ _ _ _ _ _ _ _ _ _ _ _ _ _ _ _ _ _ _ _ _ _ _ _ _ _ _ _ _ _ _ _ _ _ _ _ _ _ _ _ _ _ _ _ _ _ _ _ _ _ _ _ _ _ _ _ _ _ _ _ _ _ _ _ _ _ _ _ _ _ _ _ _ _ _ _ _ _ _ _ _ _ _ _ _ _ _ _ _ _ _ _ _ _ _ _ _ _ _ _ _ _ _ _ _ _ _ _ _ _ _ _ _ _ _ _ _ _ _ _
end Go.Proofs.YtmpladnglfiejaaGreatDoor
end
