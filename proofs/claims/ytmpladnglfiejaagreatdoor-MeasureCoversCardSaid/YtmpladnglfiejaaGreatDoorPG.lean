/- Joined of: PeWTail2 PeWTail1. -/
import Derived.Test.YtmpladnglfiejaaGreatDoorPD
section
/- The end of lintelref16.Write: what stands behind the sections. -/
namespace Go.Proofs.YtmpladnglfiejaaGreatDoor
open Go.RowKit
set_option maxRecDepth 100000
set_option linter.unusedVariables false
set_option linter.unusedSimpArgs false

def codeTail : Nat → Code → Code
  | 0, c => c
  | n + 1, .seq _ c => codeTail n c
  | _, c => c
def bodyOf (f : Func) : Code := f.body.getD .skip
noncomputable def wTail2 : Code := codeTail 24 (bodyOf Tryz.f15)
/-- What the walk knows of a shape. -/
structure WX (V : ShV) (s : Pe.Shape) (w W0 : World) (A3 : Option Addr) (n3 c3 : Nat) (l3 : List (Value × List UInt8)) (A5 : Option Addr) (n5 c5 : Nat) (A6 : Option Addr) (n6 c6 : Nat) (l6 : List (Value × List UInt8)) (tb hd : Nat) : Prop where
  at_ : ∀ wr, Below W0.heap.size W0 wr → wr.cell? ⟨w.heap.size, 3, none⟩ = some (.slice A3 n3 c3) ∧ wr.cell? ⟨w.heap.size, 5, none⟩ = some (.slice A5 n5 c5) ∧ wr.cell? ⟨w.heap.size, 6, none⟩ = some (.slice A6 n6 c6)
  rd : ∀ wr, Below W0.heap.size W0 wr → RdL wr w.heap.size A3 n3 c3 l3 ∧ Rd wr w.heap.size A5 n5 c5 s.behind ∧ RdL wr w.heap.size A6 n6 c6 l6
  bodies : l3.map (·.2) = s.bodies
  sigs : l6.map (·.2) = s.sigs
  ok : s.Ok
  tb_ : s.table = tb
  hd_ : s.headers = hd
  lt : w.heap.size < W0.heap.size
  below : Below w.heap.size w W0
  n3_ : 1 ≤ n3 ∧ n3 ≤ 10
  n5_ : n5 ≤ 500 ∧ s.behind.length = n5
  n6_ : n6 ≤ 20 ∧ s.sigs.length = n6
  nums : 248 ≤ tb ∧ tb ≤ 528 ∧ hd ≤ 2000 ∧ tb + 40 * n3 ≤ hd
theorem WI.ret {s : Pe.Shape} {w W0 wr : World} {v : Value} {xs : List UInt8} (h : WI W0 v xs wr) (hx : w.heap.size < W0.heap.size) (hb : Below w.heap.size w W0) (e : xs = Pe.write s) : RetOwn (Pe.write s) w (.returned v) wr := by
  subst e
  exact retOwn (h.own.mono (by omega) (Nat.le_refl _)) (hb.trans (h.below.mono (by omega)))
section
variable {V : ShV} {s : Pe.Shape} {w W0 : World} {A3 : Option Addr} {n3 c3 : Nat} {l3 : List (Value × List UInt8)} {A5 : Option Addr} {n5 c5 : Nat} {A6 : Option Addr} {n6 c6 : Nat} {l6 : List (Value × List UInt8)} {tb hd : Nat}
set_option maxHeartbeats 4000000 in
theorem write_tail2 (hx : WX V s w W0 A3 n3 c3 l3 A5 n5 c5 A6 n6 c6 l6 tb hd) (B : List UInt8) (hB : s.order'.foldl s.lay s.head = B) (hBl : hd ≤ B.length ∧ B.length ≤ 1000000) (wr : World) (v9 : Value) (h : WI W0 v9 B wr) (u0 u2 u3 u4 u5 u6 u8 u10 u11 u12 u13 u14 u15 u16 u17 u18 u19 u20 u21 u22 u23 u24 u25 u26 u27 u28 u29 u30 u31 u32 u33 u34 u35 u36 u37 u38 u39 u40 u41 u42 u43 u44 u45 u46 u47 u48 u49 u50 u51 u52 u53 u54 u55 u56 u57 u58 u59 u60 u61 u62 u63 u64 u65 u66 u67 u68 u69 u70 u71 u72 u73 u74 u75 u76 u77 u78 u79 u80 u81 u82 u83 u84 u85 u86 u87 u88 u89 u90 u91 u92 u93 u94 u95 u96 u97 u98 u99 u100 u101 u102 u103 u104 u105 u106 u107 u108 u109 u110 u111 u112 u113 u114 u115 u116 u117 u118 u119 u120 u121 u122 u123 u124 u125 u126 u127 u128 u129 u130 u131 u132 u133 u134 u135 u136 u137 u138 u139 u140 u141 u142 u143 u144 u145 u146 u147 u148 u149 u150 u151 u152 u153 u154 u155 u156 u157 u158 u159 u160 u161 u162 u163 u164 u165 u166 u167 u168 u169 u170 u171 u172 u173 u174 u175 u176 u177 u178 u179 u180 u181 u182 u183 u184 u185 u186 u187 u188 u189 u190 u191 u192 u193 : Value) :
    wTail2.wp Tryz.prog (bodyPost Tryz.prog Tryz.f15 (RetOwn (Pe.write s) w)) { tmps := (u0 :: Value.pointer (some ⟨w.heap.size, 0, none⟩) :: u2 :: u3 :: u4 :: u5 :: u6 :: Value.int .i64 (tb : Int) :: u8 :: v9 :: u10 :: u11 :: u12 :: u13 :: u14 :: u15 :: u16 :: u17 :: u18 :: u19 :: u20 :: u21 :: u22 :: u23 :: u24 :: u25 :: u26 :: u27 :: u28 :: u29 :: u30 :: u31 :: u32 :: u33 :: u34 :: u35 :: u36 :: u37 :: u38 :: u39 :: u40 :: u41 :: u42 :: u43 :: u44 :: u45 :: u46 :: u47 :: u48 :: u49 :: u50 :: u51 :: u52 :: u53 :: u54 :: u55 :: u56 :: u57 :: u58 :: u59 :: u60 :: u61 :: u62 :: u63 :: u64 :: u65 :: u66 :: u67 :: u68 :: u69 :: u70 :: u71 :: u72 :: u73 :: u74 :: u75 :: u76 :: u77 :: u78 :: u79 :: u80 :: u81 :: u82 :: u83 :: u84 :: u85 :: u86 :: u87 :: u88 :: u89 :: u90 :: u91 :: u92 :: u93 :: u94 :: u95 :: u96 :: u97 :: u98 :: u99 :: u100 :: u101 :: u102 :: u103 :: u104 :: u105 :: u106 :: u107 :: u108 :: u109 :: u110 :: u111 :: u112 :: u113 :: u114 :: u115 :: u116 :: u117 :: u118 :: u119 :: u120 :: u121 :: u122 :: u123 :: u124 :: u125 :: u126 :: u127 :: u128 :: u129 :: u130 :: u131 :: u132 :: u133 :: u134 :: u135 :: u136 :: u137 :: u138 :: u139 :: u140 :: u141 :: u142 :: u143 :: u144 :: u145 :: u146 :: u147 :: u148 :: u149 :: u150 :: u151 :: u152 :: u153 :: u154 :: u155 :: u156 :: u157 :: u158 :: u159 :: u160 :: u161 :: u162 :: u163 :: u164 :: u165 :: u166 :: u167 :: u168 :: u169 :: u170 :: u171 :: u172 :: u173 :: u174 :: u175 :: u176 :: u177 :: u178 :: u179 :: u180 :: u181 :: u182 :: u183 :: u184 :: u185 :: u186 :: u187 :: u188 :: u189 :: u190 :: u191 :: u192 :: u193 :: []).toArray, defers := [] } wr := by
  generalize hQ : bodyPost Tryz.prog Tryz.f15 (RetOwn (Pe.write s) w) = Q
  unfold wTail2 bodyOf
  simp only [Tryz.f15, codeTail, Option.getD_some]
  subst hQ
  have b3 := hx.n3_
  have b5 := hx.n5_
  have b6 := hx.n6_
  have bn := hx.nums
  have hlt := hx.lt
  have q5 := (hx.at_ wr h.below).2.1
  have HX := Lib.hid (And.intro hx (And.intro hB (And.intro hBl (And.intro h b5.2))))
  have b5' := b5.1
  have b6' := b6.1
  have hBu := hBl.2
  clear hx hB hBl h b5 b6
  go_upto_region 33 with
    (first
      | (at_builtin
         refine wpList_app rfl (.tmp 156) (.tmp 158) rfl W0.heap.size wr.heap.size _ B rfl HX.out.2.2.2.1.own HX.out.2.2.2.1.below.size w.heap.size A5 n5 c5 s.behind rfl (HX.out.1.rd wr HX.out.2.2.2.1.below).2.1.rds (by omega) ?_
         intro v1 w1 ho1 hg1 hat1 hb1
         have H1 := Lib.hid (WI.mk ho1 (HX.out.2.2.2.1.below.trans hb1))
         clear ho1 hg1 hat1 hb1)
      | fail)
  have e1 : B ++ s.behind = s.body := by unfold Pe.Shape.body; rw [HX.out.2.1]
  have hbl : s.body.length = B.length + n5 := by rw [← e1, List.length_append, HX.out.2.2.2.2]
  have h1 := H1.out
  rw [e1] at h1
  have q6 := (HX.out.1.at_ w1 h1.below).2.2
  have hbody : s.body.length ≤ 1000500 := by omega
  have hbod2 : hd ≤ s.body.length := by have := HX.out.2.2.1.1; omega
  obtain ⟨R, hR⟩ : ∃ R, s.body = R := ⟨_, rfl⟩
  rw [hR] at h1 hbody hbod2
  have H2 := Lib.hid (And.intro h1 (And.intro hR HX.out.1.n6_.2))
  clear h1 e1 hbl hR q5
  by_cases h0 : n6 = 0
  · have hs0 : s.sigs = [] := List.length_eq_zero_iff.1 (H2.out.2.2.trans h0)
    have hf : R = Pe.write s := by unfold Pe.write; rw [if_pos hs0, H2.out.2.1]
    have HF := Lib.hid hf
    clear hs0 hf
    subst h0
    go_wp2
    go_ret
    exact H2.out.1.ret hlt HX.out.1.below HF.out
  · have h0' : (0 : Int) < n6 := by omega
    have hs0 : s.sigs ≠ [] := fun e => h0 (by rw [← H2.out.2.2, e]; rfl)
    have HS0 := Lib.hid hs0
    clear hs0
    have hp0 : PadRel R W0 0 v1 w1 := by
      obtain ⟨A, n, c, e, hr⟩ := H2.out.1.own.rd
      have hl := hr.len
      exact ⟨Nat.zero_le _, by simpa using H2.out.1.own, H2.out.1.below, A, c, by rw [e, hl]; rfl⟩
    have HR := Lib.hid hp0
    clear hp0
    go_wp2_with fail
    rw [decide_eq_true (show 0 < n6 by omega)]
    go_loopw [9] (fun v wq => ∃ t, PadRel R W0 t v wq) (fun v _ => padLeft v)
    case atStart => exact ⟨0, HR.out⟩
    case round =>
      obtain ⟨t, ht, ho5, hb5, A5', c5', rfl⟩ := hrel
      have hmod : Int.tmod ((R.length + t : Nat) : Int) 8 = (((R.length + t) % 8 : Nat) : Int) := rfl
      obtain ⟨m5, hm5⟩ : ∃ m5, R.length + t = m5 := ⟨_, rfl⟩
      obtain ⟨r8, hr8⟩ : ∃ r8, m5 % 8 = r8 := ⟨_, rfl⟩
      rw [hm5] at ho5 hmod ⊢
      rw [hr8] at hmod
      have H5 := Lib.hid (And.intro ho5 (And.intro hb5 (And.intro hm5 hr8)))
      clear ho5 hb5 hm5 hr8 q6
      by_cases h8 : r8 = 0
      · subst h8
        have htp : t = Pe.pad R.length := pad_end ht (by rw [H5.out.2.2.1]; exact H5.out.2.2.2)
        have hf5 := H5.out.1
        have eC : R ++ List.replicate t 0 = Pe.padded s.body := by rw [htp, H2.out.2.1]; rfl
        have hm5l : m5 ≤ 1000508 ∧ hd ≤ m5 := by have := H5.out.2.2.1; have := Pe.pad_lt R.length; omega
        rw [eC] at hf5
        have hW5 : WI W0 (.slice A5' m5 c5') (Pe.padded s.body) wr := ⟨hf5, H5.out.2.1⟩
        obtain ⟨g, cap, hv⟩ := hW5.form (by rw [hW5.len]; omega)
        rw [hW5.len] at hv
        injection hv with hv1 hv2 hv3
        subst hv1 hv3
        have q6 := (HX.out.1.at_ wr hW5.below).2.2
        have hts := table_any A6 n6 c6 l6 wr ((HX.out.1.rd wr hW5.below).2.2.more (by have := hW5.below.size; omega)) (by omega) (fun p hp => by
          have hm : p.2 ∈ s.sigs := by rw [← HX.out.1.sigs]; exact List.mem_map_of_mem hp
          have := (HX.out.1.ok.each _ hm).2
          omega)
        rw [HX.out.1.sigs] at hts
        have HT := Lib.hid (And.intro hts hW5)
        clear hts hW5 hf5 eC htp hv2 ht
        go_wp2_with fail
        refine HT.out.1.mono ?_
        rintro e w2 ⟨A7, n7, c7, rfl, ho7, hb7⟩
        have hn7 : (Pe.sigTable s.sigs).length = n7 := by
          obtain ⟨_, _, _, e7, hr7⟩ := ho7.rd
          injection e7 with e71 e72 e73
          rw [e72]; exact hr7.len
        have hn7l : n7 ≤ 10000 := by
          rw [← hn7]
          refine Nat.le_trans (Pe.sigTable_le (m := 301) s.sigs fun b hb => (HX.out.1.ok.each b hb).2) ?_
          rw [H2.out.2.2]
          exact Nat.le_trans (Nat.mul_le_mul_right 317 b6') (by omega)
        have hW2 := HT.out.2.later hb7
        have hgl : g < wr.heap.size := (HT.out.2.own.1.lt g rfl).2
        have hwm : IntKind.u64.wrap (m5 : Int) = (m5 : Int) := by simp only [IntKind.wrap, IntKind.bits, IntKind.signed]; simp; omega
        have hwn : IntKind.u64.wrap (n7 : Int) = (n7 : Int) := by simp only [IntKind.wrap, IntKind.bits, IntKind.signed]; simp; omega
        have H3 := Lib.hid (And.intro hW2 (And.intro ho7 hn7))
        clear ho7 hb7 hn7 hW2 q6
        go_wp2_with fail
        refine (H3.out.1.lay (p := tb - 96) (x := m5) (k := 4) (by omega) (by omega) rfl rfl (by omega) (by omega) (.inr (.inr rfl))).mono ?_
        rintro e w3 ⟨rfl, h3, hg3⟩
        have ho73 := H3.out.2.1.keep (w' := w3) fun k k1 k2 => hg3.block k k2 (fun e => by injection e with e; omega)
        have H4 := Lib.hid (And.intro h3 (And.intro ho73 hg3.size))
        clear h3 hg3 ho73
        go_wp2_with fail
        refine (H4.out.1.lay (p := tb - 92) (x := n7) (k := 4) (by omega) (by omega) rfl rfl (by omega) (by omega) (.inr (.inr rfl))).mono ?_
        rintro e w4 ⟨rfl, h4, hg4⟩
        have hs34 := H4.out.2.2
        have ho74 := H4.out.2.1.keep (w' := w4) fun k k1 k2 => hg4.block k (by omega) (fun e => by injection e with e; omega)
        obtain ⟨_, _, _, e74, hr74⟩ := ho74.rd
        injection e74 with e741 e742 e743
        subst e741 e742 e743
        have hfin : Pe.putAt (Pe.putAt (Pe.padded s.body) (tb - 96) m5 4) (tb - 92) n7 4 ++ Pe.sigTable s.sigs = Pe.write s := by
          unfold Pe.write
          rw [if_neg HS0.out, HX.out.1.tb_, H3.out.2.2, HT.out.2.len]
        have H6 := Lib.hid (And.intro h4 (And.intro hr74 hfin))
        have hl4 := h4.len
        clear h4 hg4 ho74 hr74 hfin
        go_wp2_with
          (first
            | (at_builtin
               refine wpList_app rfl (.tmp 190) (.tmp 191) rfl W0.heap.size w4.heap.size _ _ rfl H6.out.1.own H6.out.1.below.size _ _ _ _ (Pe.sigTable s.sigs) rfl H6.out.2.1.rds (by rw [H6.out.1.len]; omega) ?_
               intro v7 w7 ho7 hg7 hat7 hb7
               rw [H6.out.2.2] at ho7
               have H7 := Lib.hid (WI.mk ho7 (H6.out.1.below.trans hb7))
               clear ho7 hg7 hat7 hb7)
            | fail)
        go_ret
        exact H7.out.ret hlt HX.out.1.below rfl
      · have hne : ((r8 : Int) != 0) = true := by simp; omega
        have htl : t < Pe.pad R.length := by
          rcases Nat.lt_or_ge t (Pe.pad R.length) with h | h
          · exact h
          · exfalso
            have e1 := H5.out.2.2.1
            have e2 := H5.out.2.2.2
            have : t = Pe.pad R.length := by omega
            unfold Pe.pad at this
            omega
        have hml : m5 ≤ 1000600 := by have := H5.out.2.2.1; have := Pe.pad_lt R.length; omega
        have HT := Lib.hid htl
        clear htl ht
        go_wp2_with
          (at_builtin
           refine wpList_app rfl (.tmp 168) (.tmp 169) rfl W0.heap.size _ _ (R ++ List.replicate t 0) rfl (H5.out.1.alloc (Nat.le_refl _) _) (by have := H5.out.2.1.size; simp; omega) _ _ 1 1 [0] rfl (reads_block _ 5 [.int .u8 0] _ rfl) (by rw [List.length_append, List.length_replicate, H5.out.2.2.1]; omega) ?_
           intro v6 w6 ho6 hg6 hat6 hb6
           have hb6' := (H5.out.2.1.alloc H5.out.2.1.size (.cells #[.int .u8 0] 5)).trans hb6
           have H6 := Lib.hid (PadRel.mk (base := R) (t := t + 1) HT.out (by rw [List.replicate_succ', ← List.append_assoc]; exact ho6) hb6')
           clear ho6 hg6 hat6 hb6 hb6')
        go_roundw
        case rel => exact ⟨t + 1, H6.out⟩
        case measure =>
          obtain ⟨_, _, _, A7, c7, rfl⟩ := H6.out
          have e1 := H5.out.2.2.1
          have := HT.out
          have e3 := H5.out.2.2.2
          simp only [padLeft]
          unfold Pe.pad at this ⊢
          omega
end
end Go.Proofs.YtmpladnglfiejaaGreatDoor
end

section
/- The middle of lintelref16.Write: the sections. -/
namespace Go.Proofs.YtmpladnglfiejaaGreatDoor
open Go.RowKit
set_option maxRecDepth 100000
set_option linter.unusedVariables false
set_option linter.unusedSimpArgs false

noncomputable def wTail1 : Code := codeTail 23 (bodyOf Tryz.f15)
theorem step_app {w : World} {ops : Array Oper} {o : Oper} {a : Act} {K : Act → World → Prop} {Q : Exit → Act → World → Prop} {E : Prop} (hgd : o.guard = none) (s x : Operand)
    (ho : o.op = .call { callee := .builtin .append, args := #[s, x], argTypes := #[22, 22] })
    (lo hi : Nat) (v : Value) (xs : List UInt8) (hs : a.eval s = v) (hown : OwnB w lo hi v xs) (hlo : lo ≤ w.heap.size)
    (B : Nat) (A : Option Addr) (m c : Nat) (news : List UInt8) (hx : a.eval x = .slice A m c) (hr : Reads w B 1 A m (news.map bv)) (hlen : xs.length + m ≤ 35184372088832)
    (h : ∀ v' w', OwnB w' lo w'.heap.size v' (xs ++ news) → w.grownBy w' v.ownBlock → (v'.ownBlock = v.ownBlock ∨ v'.ownBlock = some w.heap.size) → Below lo w w' → K (a.put o.dst v') w') :
    if Region.wanted o (yielded ops a.tmps) = true then Oper.wp Tryz.prog o a w K Q else E := by
  obtain ⟨i0, hi0, hz0, hz1, hz2⟩ := info_parts u8_info
  have hm : news.length = m := by have := hr.1; simp at this; omega
  refine step_append_any w hgd s x 22 ho lo 5 i0 _ 1 1 Tryz.underlying22 hi0 hz0 hz1 hz2 rfl (by omega) v xs.length (xs.map bv) hs hown.1 B A m c (news.map bv) hx hr (bv_one news) (by simp only [maxLen]; omega) (by omega) hlo ?_
  intro v' w' h1 h2 h3
  exact h v' w' (OwnB.of (by rw [List.map_append]; exact h1)) h2 h3 ((Below.refl _ _).grown h2 hlo fun k hk => (hown.1.lt k hk).1)
theorem Pe.fold_len (s : Pe.Shape) (hb : ∀ b ∈ s.bodies, b.length ≤ 300) : ∀ (l : List Nat) (b : List UInt8), (∀ k ∈ l, k < s.bodies.length) → s.table + 40 * s.bodies.length ≤ b.length → b.length ≤ (l.foldl s.lay b).length ∧ (l.foldl s.lay b).length ≤ b.length + 300 * l.length
  | [], b, _, _ => ⟨Nat.le_refl _, by simp⟩
  | k :: l, b, hk, ht => by
    have hk0 := hk k (by simp)
    have h1 := s.lay_len b k (by omega)
    have h2 : s.len k ≤ 300 := by
      unfold Pe.Shape.len
      rw [List.getD_eq_getElem?_getD, List.getElem?_eq_getElem hk0]
      exact hb _ (List.getElem_mem _)
    have := Pe.fold_len s hb l (s.lay b k) (fun j hj => hk j (by simp [hj])) (by omega)
    rw [List.foldl_cons, List.length_cons]
    omega
theorem WI.drew {W0 wr : World} {b : Value} {xs : List UInt8} (h : WI W0 b xs wr) : WI W0 b xs wr.drew := h.later (Below.refl _ _).drew
theorem WI.drewN {W0 wr : World} {b : Value} {xs : List UInt8} (h : WI W0 b xs wr) (n : Nat) : WI W0 b xs (wr.drewN n) := h.later (below_drewN (Below.refl _ _) n)
section
variable {V : ShV} {s : Pe.Shape} {w W0 : World} {A3 : Option Addr} {n3 c3 : Nat} {l3 : List (Value × List UInt8)} {A5 : Option Addr} {n5 c5 : Nat} {A6 : Option Addr} {n6 c6 : Nat} {l6 : List (Value × List UInt8)} {tb hd : Nat}
set_option maxHeartbeats 4000000 in
theorem write_tail1 (hx : WX V s w W0 A3 n3 c3 l3 A5 n5 c5 A6 n6 c6 l6 tb hd) (h3 : s.bodies.length = n3) (hor : s.order.length ≤ 1000) (w13 : World) (v9 : Value) (h : WI W0 v9 s.head w13) (lo hi n9 c9 : Nat) (A9 : Option Addr) (ol : List Nat) (hol : s.order' = ol) (ho : OwnC 3 1 w13 lo hi (.slice A9 n9 c9) n9 (ol.map natV)) (u0 u2 u3 u4 u5 u6 u8 u10 u12 u13 u14 u15 u16 u17 u18 u19 u20 u21 u22 u23 u24 u25 u26 u27 u28 u29 u30 u31 u32 u33 u34 u35 u36 u37 u38 u39 u40 u41 u42 u43 u44 u45 u46 u47 u48 u49 u50 u51 u52 u53 u54 u55 u56 u57 u58 u59 u60 u61 u62 u63 u64 u65 u66 u67 u68 u69 u70 u71 u72 u73 u74 u75 u76 u77 u78 u79 u80 u81 u82 u83 u84 u85 u86 u87 u88 u89 u90 u91 u92 u93 u94 u95 u96 u97 u98 u99 u100 u101 u102 u103 u104 u105 u106 u107 u108 u109 u110 u111 u112 u113 u114 u115 u116 u117 u118 u119 u120 u121 u122 u123 u124 u125 u126 u127 u128 u129 u130 u131 u132 u133 u134 u135 u136 u137 u138 u139 u140 u141 u142 u143 u144 u145 u146 u147 u148 u149 u150 u151 u152 u153 u154 u155 u156 u157 u158 u159 u160 u161 u162 u163 u164 u165 u166 u167 u168 u169 u170 u171 u172 u173 u174 u175 u176 u177 u178 u179 u180 u181 u182 u183 u184 u185 u186 u187 u188 u189 u190 u191 u192 u193 : Value) :
    wTail1.wp Tryz.prog (bodyPost Tryz.prog Tryz.f15 (RetOwn (Pe.write s) w)) { tmps := (u0 :: Value.pointer (some ⟨w.heap.size, 0, none⟩) :: u2 :: u3 :: u4 :: u5 :: u6 :: Value.int .i64 (tb : Int) :: u8 :: v9 :: u10 :: Value.slice A9 n9 c9 :: u12 :: u13 :: u14 :: u15 :: u16 :: u17 :: u18 :: u19 :: u20 :: u21 :: u22 :: u23 :: u24 :: u25 :: u26 :: u27 :: u28 :: u29 :: u30 :: u31 :: u32 :: u33 :: u34 :: u35 :: u36 :: u37 :: u38 :: u39 :: u40 :: u41 :: u42 :: u43 :: u44 :: u45 :: u46 :: u47 :: u48 :: u49 :: u50 :: u51 :: u52 :: u53 :: u54 :: u55 :: u56 :: u57 :: u58 :: u59 :: u60 :: u61 :: u62 :: u63 :: u64 :: u65 :: u66 :: u67 :: u68 :: u69 :: u70 :: u71 :: u72 :: u73 :: u74 :: u75 :: u76 :: u77 :: u78 :: u79 :: u80 :: u81 :: u82 :: u83 :: u84 :: u85 :: u86 :: u87 :: u88 :: u89 :: u90 :: u91 :: u92 :: u93 :: u94 :: u95 :: u96 :: u97 :: u98 :: u99 :: u100 :: u101 :: u102 :: u103 :: u104 :: u105 :: u106 :: u107 :: u108 :: u109 :: u110 :: u111 :: u112 :: u113 :: u114 :: u115 :: u116 :: u117 :: u118 :: u119 :: u120 :: u121 :: u122 :: u123 :: u124 :: u125 :: u126 :: u127 :: u128 :: u129 :: u130 :: u131 :: u132 :: u133 :: u134 :: u135 :: u136 :: u137 :: u138 :: u139 :: u140 :: u141 :: u142 :: u143 :: u144 :: u145 :: u146 :: u147 :: u148 :: u149 :: u150 :: u151 :: u152 :: u153 :: u154 :: u155 :: u156 :: u157 :: u158 :: u159 :: u160 :: u161 :: u162 :: u163 :: u164 :: u165 :: u166 :: u167 :: u168 :: u169 :: u170 :: u171 :: u172 :: u173 :: u174 :: u175 :: u176 :: u177 :: u178 :: u179 :: u180 :: u181 :: u182 :: u183 :: u184 :: u185 :: u186 :: u187 :: u188 :: u189 :: u190 :: u191 :: u192 :: u193 :: []).toArray, defers := [] } w13 := by
  have hn9 : ol.length = n9 := by have := ho.1.1; simpa using this
  have hmem : ∀ k ∈ ol, k < n3 := fun k hk => by rw [← hol] at hk; rw [← h3]; exact (Pe.order_mem _ _ k).1 hk
  have hn9l : n9 ≤ 1010 := by
    rw [← hn9, ← hol]
    have e : s.order' = Pe.upto s.bodies.length s.order (s.order.length + s.bodies.length) := by
      unfold Pe.Shape.order'
      rw [Pe.orderOf_seqI]
      unfold Pe.upto
      rw [List.take_of_length_le (by rw [Pe.seqI_len]; exact Nat.le_refl _)]
    have := Pe.upto_len s.bodies.length s.order (s.order.length + s.bodies.length)
    rw [e]
    have := hx.n3_
    omega
  have hht : s.table + 40 * s.bodies.length ≤ s.head.length := by rw [s.head_len, hx.hd_, hx.tb_, h3]; exact hx.nums.2.2.2
  have hfl : ∀ j, hd ≤ ((ol.take j).foldl s.lay s.head).length ∧ ((ol.take j).foldl s.lay s.head).length ≤ 400000 := fun j => by
    have h4 := Pe.fold_len s hx.ok.bodies (ol.take j) s.head (fun k hk => by rw [h3]; exact hmem k (List.mem_of_mem_take hk)) hht
    have h5 : (ol.take j).length ≤ 1010 := by rw [List.length_take]; omega
    rw [s.head_len, hx.hd_] at h4
    have := hx.nums
    omega
  generalize hQ : bodyPost Tryz.prog Tryz.f15 (RetOwn (Pe.write s) w) = Q
  unfold wTail1 bodyOf
  simp only [Tryz.f15, codeTail, Option.getD_some]
  have b3 := hx.n3_
  have bn := hx.nums
  have hlt0 := hx.lt
  have HX := Lib.hid (And.intro hx (And.intro hfl (And.intro hmem (And.intro hn9 (And.intro h (And.intro ho (And.intro hQ (And.intro hol h3))))))))
  clear hx hfl hmem hn9 h ho hQ hol h3 hht
  refine wp_seq_k fun K hK => ?_
  go_cut [9] from 13 (fun s9 wx => WI W0 s9 (s.order'.foldl s.lay s.head) wx ∧ hd ≤ (s.order'.foldl s.lay s.head).length ∧ (s.order'.foldl s.lay s.head).length ≤ 400000)
  case first =>
    go_wp2_with fail
    go_loopw [9, 12] (fun v i wr => ∃ j : Nat, j ≤ n9 ∧ i = .int .i64 (j : Int) ∧ WI W0 v ((ol.take j).foldl s.lay s.head) wr ∧ OwnC 3 1 wr lo hi (.slice A9 n9 c9) n9 (ol.map natV)) (fun _ i _ => n9 - (intOf i).toNat)
    case atStart => exact ⟨0, Nat.zero_le _, rfl, HX.out.2.2.2.2.1, HX.out.2.2.2.2.2.1⟩
    case round =>
      obtain ⟨j, hj, rfl, hW, hO⟩ := hrel
      by_cases hlt : j < n9
      · have hlt' : (j : Int) < n9 := by omega
        obtain ⟨k, hk⟩ : ∃ k, ol[j]? = some k := ⟨_, List.getElem?_eq_getElem (by rw [HX.out.2.2.2.1]; exact hlt)⟩
        have hk3 : k < n3 := HX.out.2.2.1 k (List.mem_of_getElem? hk)
        have hk3' : (k : Int) < n3 := by omega
        obtain ⟨go, capo, e, _, _⟩ := hO.1.form (by omega)
        injection e with ea en ec
        subst ea ec
        clear en
        have qo : wr.cell? ⟨go, j, none⟩ = some (.int .i64 (k : Int)) := by
          rw [hO.1.cellAt j (by omega), List.getElem?_map, hk]; rfl
        have q3 := (HX.out.1.at_ wr hW.below).1
        obtain ⟨b3', o3, A', n', c', xs, e3, hb3, hlk, qb, hrd⟩ := (HX.out.1.rd wr hW.below).1.get hk3
        subst e3
        have hfl := HX.out.2.1 j
        obtain ⟨B, hB⟩ : ∃ B, (ol.take j).foldl s.lay s.head = B := ⟨_, rfl⟩
        have hB1 : (ol.take (j + 1)).foldl s.lay s.head = s.lay B k := by rw [take_snoc hk, List.foldl_append, hB]; rfl
        have hbk : s.bodies.getD k [] = xs := by rw [List.getD_eq_getElem?_getD, ← HX.out.1.bodies, List.getElem?_map, hlk]; rfl
        have hlay : s.lay B k = if xs = [] then B else Pe.putAt (Pe.putAt B (tb + 40 * k + 16) n' 4) (tb + 40 * k + 20) B.length 4 ++ xs := by
          unfold Pe.Shape.lay
          rw [hbk, HX.out.1.tb_, hrd.len]
        rw [hB] at hfl hW
        rw [← hB1] at hlay
        have hxl := hrd.len
        have hn' : n' ≤ 300 := by
          rw [← hxl, ← hbk]
          rw [List.getD_eq_getElem?_getD, List.getElem?_eq_getElem (by rw [HX.out.2.2.2.2.2.2.2.2]; exact hk3)]
          exact HX.out.1.ok.bodies _ (List.getElem_mem _)
        obtain ⟨g, cap, hv⟩ := hW.form (by omega)
        subst hv
        obtain ⟨bl, hbl⟩ : ∃ bl, B.length = bl := ⟨_, rfl⟩
        rw [hbl] at hfl hW ⊢
        have hfl1 := hfl.1
        have hfl2 := hfl.2
        have HI := Lib.hid (And.intro hW (And.intro hO (And.intro hrd (And.intro hlay (And.intro hxl hbl)))))
        clear hW hO hrd hlay hxl hbl hfl hB hB1 hbk hlk hk
        by_cases h0 : n' = 0
        · have hx0 : xs = [] := List.length_eq_zero_iff.1 (HI.out.2.2.2.2.1.trans h0)
          have hly := HI.out.2.2.2.1
          rw [if_pos hx0] at hly
          have HL := Lib.hid hly
          clear hx0 hly
          subst h0
          go_upto_region 28 with fail
          go_quiet (fail)
          go_wp2
          go_roundw
          case rel => exact ⟨j + 1, by omega, by go_num, by rw [HL.out]; exact HI.out.1.drewN nq, HI.out.2.1.keep fun _ _ _ => rfl⟩
          case measure => simp [intOf]; omega
        · have h0' : (0 : Int) < n' := by omega
          have hx0 : xs ≠ [] := fun e => h0 (by rw [← HI.out.2.2.2.2.1, e]; rfl)
          have hly := HI.out.2.2.2.1
          rw [if_neg hx0] at hly
          have HL := Lib.hid hly
          clear hx0 hly
          go_upto_region 28 with fail
          go_quiet (fail)
          obtain ⟨wd, hwd⟩ : ∃ wd, wd = wr.drewN nq := ⟨_, rfl⟩
          rw [← hwd]
          have hWd : WI W0 (.slice (some ⟨g, 0, none⟩) bl cap) B wd := by rw [hwd]; exact HI.out.1.drewN nq
          have hOd : OwnC 3 1 wd lo hi (.slice (some ⟨go, 0, none⟩) n9 c9) n9 (ol.map natV) := by rw [hwd]; exact HI.out.2.1.keep fun _ _ _ => rfl
          have qod : wd.cell? ⟨go, j, none⟩ = some (.int .i64 (k : Int)) := by rw [hwd]; exact qo
          have q3d : wd.cell? ⟨w.heap.size, 3, none⟩ = some (.slice (some ⟨b3', o3, none⟩) n3 c3) := by rw [hwd]; exact q3
          have qbd' : wd.cell? ⟨b3', o3 + k, none⟩ = some (.slice A' n' c') := by rw [hwd]; exact qb
          have hgot : ∀ W, Below W0.heap.size W0 W → W.cell? ⟨w.heap.size, 3, none⟩ = some (.slice (some ⟨b3', o3, none⟩) n3 c3) ∧ W.cell? ⟨b3', o3 + k, none⟩ = some (.slice A' n' c') ∧ Rd W w.heap.size A' n' c' xs := fun W hb => by
            have hrr := (HX.out.1.rd W hb).1
            refine ⟨(HX.out.1.at_ W hb).1, (hb.cell (p := ⟨b3', o3 + k, none⟩) (by show b3' < W0.heap.size; omega)).trans ((hWd.below.cell (p := ⟨b3', o3 + k, none⟩) (by show b3' < W0.heap.size; omega)).symm.trans qbd'), ?_⟩
            have h1 := HI.out.2.2.1.keep (w' := W0) fun p hp => (HI.out.1.below.cell (p := p) (by omega)).symm
            exact h1.keep fun p hp => hb.cell (p := p) (by omega)
          have hO2 : ∀ (W W' : World) (b : Value) (ys : List UInt8) (r : Option Nat), OwnC 3 1 W lo hi (.slice (some ⟨go, 0, none⟩) n9 c9) n9 (ol.map natV) → WI W0 b ys W → W.grownBy W' r → (∀ k, r = some k → b.ownBlock = some k) → OwnC 3 1 W' lo hi (.slice (some ⟨go, 0, none⟩) n9 c9) n9 (ol.map natV) ∧ W'.cell? ⟨go, j, none⟩ = some (.int .i64 (k : Int)) := fun W W' b ys r h1 h2 h3 h4 => by
            have h5 := h1.other h2.own h3 h4 (by decide)
            have h6 := hOd.1.cellAt j (by omega)
            refine ⟨h5, ?_⟩
            rw [h5.1.cellAt j (by omega), ← h6, qod]
          have hla := fun W (h : WI W0 (.slice (some ⟨g, 0, none⟩) bl cap) B W) => h.lay (p := tb + 40 * k + 16) (x := n') (k := 4) (q := (tb : Int) + 40 * (k : Int) + 16) (y := (n' : Int)) (j := 4) (by omega) (by omega) rfl rfl (by omega) (by omega) (.inr (.inr rfl))
          have i1 : IntKind.i64.wrap (40 * (k : Int)) = 40 * (k : Int) := by rw [IntKind.wrap_i64]; omega
          have i2 : IntKind.i64.wrap ((tb : Int) + 40 * (k : Int)) = (tb : Int) + 40 * (k : Int) := by rw [IntKind.wrap_i64]; omega
          have i3 : IntKind.i64.wrap ((tb : Int) + 40 * (k : Int) + 16) = (tb : Int) + 40 * (k : Int) + 16 := by rw [IntKind.wrap_i64]; omega
          have i4 : IntKind.u64.wrap (n' : Int) = (n' : Int) := by simp only [IntKind.wrap, IntKind.bits, IntKind.signed]; simp; omega
          have i5 : IntKind.u64.wrap (bl : Int) = (bl : Int) := by simp only [IntKind.wrap, IntKind.bits, IntKind.signed]; simp; omega
          have HD := Lib.hid (And.intro hWd (And.intro hOd (And.intro hgot (And.intro hO2 hla))))
          clear hWd hOd hgot hO2 hla hwd qo q3 qb
          go_upto_region 29 with fail
          go_region_held3 (fun w' => w'.cell? ⟨go, j, none⟩ = some (.int .i64 (k : Int)) ∧ w'.cell? ⟨w.heap.size, 3, none⟩ = some (.slice (some ⟨b3', o3, none⟩) n3 c3) ∧ w'.cell? ⟨b3', o3 + k, none⟩ = some (.slice A' n' c')) (go_keep)
            (first
              | (go_at_call 29; ((with_reducible refine (HD.out.2.2.2.2 _ (by exact HD.out.1.drew)).mono ?_); rintro e wa ⟨rfl, ha, hga⟩); have hoa := HD.out.2.2.2.1 _ wa (.slice (some ⟨g, 0, none⟩) bl cap) B _ (by exact HD.out.2.1.keep fun _ _ _ => rfl) (by exact HD.out.1.drew) hga (fun k e => e); have qoa := hoa.2; have q3a := (HD.out.2.2.1 wa ha.below).1; have qba := (HD.out.2.2.1 wa ha.below).2.1; have HA := Lib.hid (And.intro ha hoa.1); clear ha hga hoa))
          clear i3 i4
          go_wp2_with fail
          refine (HA.out.1.lay (p := tb + 40 * k + 20) (x := bl) (k := 4) (by omega) (by omega) rfl rfl (by omega) (by omega) (.inr (.inr rfl))).mono ?_
          rintro e wb ⟨rfl, hb, hgb⟩
          have hob := HD.out.2.2.2.1 wa wb (.slice (some ⟨g, 0, none⟩) bl cap) _ _ HA.out.2 HA.out.1 hgb (fun k e => e)
          have qob := hob.2
          have q3b := (HD.out.2.2.1 wb hb.below).1
          have qbb := (HD.out.2.2.1 wb hb.below).2.1
          have HBB := Lib.hid (And.intro hb (And.intro hob.1 (HD.out.2.2.1 wb hb.below).2.2))
          clear hb hgb hob qoa q3a qba
          go_upto_region 31 with fail
          go_region_held3 (fun w' => w'.cell? ⟨go, j, none⟩ = some (.int .i64 (k : Int)) ∧ w'.cell? ⟨w.heap.size, 3, none⟩ = some (.slice (some ⟨b3', o3, none⟩) n3 c3) ∧ w'.cell? ⟨b3', o3 + k, none⟩ = some (.slice A' n' c')) (go_keep)
            (((refine step_app (by rfl) (.tmp 146) (.tmp 154) (by rfl) W0.heap.size wb.heap.size _ (Pe.putAt (Pe.putAt B (tb + 40 * k + 16) n' 4) (tb + 40 * k + 20) bl 4) (by rfl) (by exact HBB.out.1.own.drewN 1) (by exact HBB.out.1.below.size) w.heap.size A' n' c' xs (by rfl) (by exact (HBB.out.2.2.drew).rds) (by rw [HBB.out.1.len]; omega) ?_); intro v6 w6 ho6 hg6 hat6 hb6; obtain ⟨A6', n6', c6', rfl, _⟩ := ho6.rd; have h6 := WI.mk ho6 (HBB.out.1.below.drew.trans hb6); have ho2 := HD.out.2.2.2.1 _ w6 (.slice (some ⟨g, 0, none⟩) bl cap) _ _ (by exact HBB.out.2.1.keep fun _ _ _ => rfl) (by exact HBB.out.1.drew) hg6 (fun k e => e); have qo6 := ho2.2; have q36 := (HD.out.2.2.1 w6 h6.below).1; have qb6 := (HD.out.2.2.1 w6 h6.below).2.1; have H6 := Lib.hid (And.intro h6 ho2.1); clear h6 ho2 ho6 hg6 hat6 hb6))
          go_wp2
          go_roundw
          case rel => exact ⟨j + 1, by omega, by go_num, by rw [HL.out, HI.out.2.2.2.2.2]; exact H6.out.1, H6.out.2⟩
          case measure => simp [intOf]; omega
      · have hjn : j = n9 := by omega
        have hge : ¬ (j : Int) < n9 := by omega
        have e : (ol.take j).foldl s.lay s.head = s.order'.foldl s.lay s.head := by rw [List.take_of_length_le (by rw [HX.out.2.2.2.1]; omega), HX.out.2.2.2.2.2.2.2.1]
        have hfl := HX.out.2.1 j
        rw [e] at hW hfl
        have HI := Lib.hid (And.intro hW hfl)
        clear hW hO hfl e hjn
        go_wp2_with fail
        go_meet
        exact ⟨HI.out.1, HI.out.2⟩
  refine hK _ _ ?_
  rw [← HX.out.2.2.2.2.2.2.1]
  exact write_tail2 HX.out.1 _ rfl ⟨hcut.2.1, by have := hcut.2.2; omega⟩ wc _ hcut.1 _ _ _ _ _ _ _ _ _ _ _ _ _ _ _ _ _ _ _ _ _ _ _ _ _ _ _ _ _ _ _ _ _ _ _ _ _ _ _ _ _ _ _ _ _ _ _ _ _ _ _ _ _ _ _ _ _ _ _ _ _ _ _ _ _ _ _ _ _ _ _ _ _ _ _ _ _ _ _ _ _ _ _ _ _ _ _ _ _ _ _ _ _ _ _ _ _ _ _ _ _ _ _ _ _ _ _ _ _ _ _ _ _ _ _ _ _ _ _ _ _ _ _ _ _ _ _ _ _ _ _ _ _ _ _ _ _ _ _ _ _ _ _ _ _ _ _ _ _ _ _ _ _ _ _ _ _ _ _ _ _ _ _ _ _ _ _ _ _ _ _ _ _ _ _ _ _ _ _ _ _ _ _ _ _ _ _ _ _ _ _
end
end Go.Proofs.YtmpladnglfiejaaGreatDoor
end
