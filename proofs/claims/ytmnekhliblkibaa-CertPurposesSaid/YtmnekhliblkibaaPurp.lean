/- The walk of the law CertPurposes. -/
import Derived.Test.YtmnekhliblkibaaStrangeA
import Derived.Test.YtmnekhliblkibaaPlainP
namespace Go.Proofs.Ytmnekhliblkibaa
open Go.RowKit
set_option maxRecDepth 1000000
set_option linter.unusedVariables false
set_option linter.unusedSimpArgs false
set_option maxHeartbeats 8000000

/-- A slice of slices of numbers that reads as L. -/
structure RdUs (w : World) (B : Nat) (A : Option Addr) (n c : Nat) (L : List (List Nat)) : Prop where
  len : L.length = n
  spot : 0 < n → ∃ b o, A = some ⟨b, o, none⟩ ∧ b < B ∧ ∀ (j : Nat) (zs : List Nat), L[j]? = some zs → ∃ A' n' c', w.cell? ⟨b, o + j, none⟩ = some (.slice A' n' c') ∧ RdU w B A' n' c' zs
theorem RdUs.up {w w' : World} {A : Option Addr} {n c : Nat} {L : List (List Nat)} (h : RdUs w w.heap.size A n c L) (hb : Below w.heap.size w w') : RdUs w' w'.heap.size A n c L := by
  refine ⟨h.len, fun h0 => ?_⟩
  obtain ⟨b, o, e, hB, hc⟩ := h.spot h0
  refine ⟨b, o, e, by have := hb.size; omega, fun j zs hz => ?_⟩
  obtain ⟨A', n', c', h1, h2⟩ := hc j zs hz
  exact ⟨A', n', c', (hb.cell (p := ⟨b, o + j, none⟩) hB).trans h1, h2.up hb⟩
section
variable {o : Oper} {a : Act} {w : World} {Q : Exit → Act → World → Prop}
theorem N_seqL {y : Operand} {ts : Array TypeId} {A : Option Addr} {n c : Nat} {l : List (Value × List UInt8)} {xss : List (List UInt8)} (ho : o.op = .call { callee := .value (.func 33), args := #[y], argTypes := ts }) (hd : o.dst ≠ none) (hy : a.eval y = .slice A n c) (hr : RdL w w.heap.size A n c l) (hl : l.map (·.2) = xss) (hn : n ≤ 1099511627776) (hc : (cat l).length ≤ 1099511627000) :
    o.wp Try.prog a w (KN a o (fun v w' => RdT w' v (Ref.seq xss)) w) Q := by
  subst hl
  exact N_call ho hd Try.func33 rfl (by decide) (args := #[.slice A n c]) (by simp [hy]) (refSeq_any A n c l w hr hn hc) fun e w' h => h.rdt
end
theorem purposes_large (KV : Value) (A : Option Addr) (n c : Nat) (code : Int) (w : World) (hn : (20 : Int) < n) (k : Kase) (v0 v1 v2 : Value) (hk : KV = k.val v0 v1 v2) :
    Calls Try.prog 9 #[KV, .slice A n c, .int .u8 code] w (LawPost w) := by
  subst hk
  unfold Kase.val
  go_enter Try.func9, Try.ntmps9
  go_wp2_with fail
  refine (works12_any _).mono ?_
  rintro e w1 ⟨rfl, hb1⟩
  go_wp2
  go_ret
  exact ⟨rfl, (((Below.refl _ w).alloc (Nat.le_refl _) _).trans (hb1.mono (by simp)))⟩
theorem purposes_main (k : Kase) (A0 A1 A2 : Option Addr) (n0 c0 n1 c1 n2 c2 : Nat) (A3 : Option Addr) (n3 c3 : Nat) (L : List (List Nat)) (code : Nat) (hcode : code < 256) (w : World) (hk : k.come w A0 A1 A2 n0 c0 n1 c1 n2 c2)
    (h3 : RdUs w w.heap.size A3 n3 c3 L) (hn : ¬ (20 : Int) < n3) :
    Calls Try.prog 9 #[k.val (.slice A0 n0 c0) (.slice A1 n1 c1) (.slice A2 n2 c2), .slice A3 n3 c3, .int .u8 (code : Int)] w (LawPost w) := by
  obtain ⟨w0, hw0, hKB0⟩ : ∃ w0, w0 = w.alloc (.cells (k.row (.slice A0 n0 c0) (.slice A1 n1 c1) (.slice A2 n2 c2)) 42) ∧ Blk w0 w.heap.size 42 (k.row (.slice A0 n0 c0) (.slice A1 n1 c1) (.slice A2 n2 c2)) := ⟨_, rfl, Blk.new w _ _⟩
  have hb0 : Below w.heap.size w w0 := by rw [hw0]; exact (Below.refl _ w).alloc (Nat.le_refl _) _
  have HK := Lib.hid (And.intro (hk.up hb0) (And.intro (h3.up hb0) (And.intro hb0 hKB0)))
  clear hk h3 hKB0 hb0
  obtain ⟨KV, hKV⟩ : ∃ KV, KV = k.val (.slice A0 n0 c0) (.slice A1 n1 c1) (.slice A2 n2 c2) := ⟨_, rfl⟩
  have hKV2 : KV = Value.agg (k.row (.slice A0 n0 c0) (.slice A1 n1 c1) (.slice A2 n2 c2)) := hKV
  rw [← hKV]
  clear hKV
  subst hKV2
  go_enter Try.func9, Try.ntmps9
  go_upto_region 3 with fail
  rw [← hw0]
  clear hw0
  go_upto_region 6 with fail
  go_loopw [7, 8, 9] (fun v q i wr => ∃ (j : Nat) (bs : List (List UInt8)) (l : List (Value × List UInt8)), j ≤ n3 ∧ i = .int .i64 j ∧ bs.length = j ∧ q = .bool (bs.any (· == X.code8)) ∧ (∀ b ∈ bs, Purp b) ∧ l.map (·.2) = bs.map (Der.write 6) ∧ XS wr w0.heap.size v l ∧ Below w0.heap.size w0 wr) (fun _ _ i _ => n3 - (intOf i).toNat)
  case atStart => exact ⟨0, [], [], Nat.zero_le _, rfl, rfl, rfl, fun b h => (List.not_mem_nil h).elim, rfl, XS.nil_, Below.refl _ _⟩
  case round =>
    obtain ⟨j, bs, l, hj, rfl, hbs, rfl, hP, hlm, hX, hb⟩ := hrel
    by_cases hlt : j < n3
    · skip
      have hlt' : (j : Int) < n3 := by omega
      obtain ⟨bq, oq, hAq, hbq, hcq⟩ := HK.out.2.1.spot (by omega)
      subst hAq
      obtain ⟨zs, hzs⟩ : ∃ zs, L[j]? = some zs := ⟨L[j]'(by have := HK.out.2.1.len; omega), List.getElem?_eq_getElem _⟩
      obtain ⟨A', n', c', kc0, hU0⟩ := hcq j zs hzs
      have kc : wr.cell? ⟨bq, oq + j, none⟩ = some (.slice A' n' c') := (hb.cell (p := ⟨bq, oq + j, none⟩) hbq).trans kc0
      have hll : l.length = j := by have := congrArg List.length hlm; simpa [hbs] using this
      have HX := Lib.hid (And.intro hP (And.intro hlm (And.intro hbs hll)))
      have HU := Lib.hid (And.intro (hU0.up hb) (And.intro hX hb))
      obtain ⟨Av, cv, rfl, _⟩ := hX.rdl
      clear hX hb hP hlm hcq kc0 hU0 hzs hll hbs
      go_wp2_with fail
      refine (strange_any A' n' c' zs wr HU.out.1).mono ?_
      rintro en w1 ⟨B, m, d, rfl, ho1, hb1⟩
      have hS := strange_purp (strange_is zs HU.out.1.small)
      generalize X.strange zs = b at ho1 hS
      have hbw := HU.out.2.2.trans (hb1.mono HU.out.2.2.size)
      have H1 := Lib.hid (And.intro hS (And.intro (RdT.own (ho1.mono (Nat.le_refl _) (Nat.le_refl _))) (And.intro (HU.out.2.1.below hb1) hbw)))
      clear hS ho1 hb1 hbw kc
      by_cases hjc : j = code
      · have hjc' : ((j : Int) == (code : Int)) = true := by simp; omega
        go_upto_region 11 with fail
        have hr2 := Rd.lit w1 5 X.code8 [.int .u8 43, .int .u8 6, .int .u8 1, .int .u8 5, .int .u8 5, .int .u8 7, .int .u8 3, .int .u8 3] _ 8 rfl rfl rfl (by omega)
        obtain ⟨w2, hw2⟩ : ∃ w2, w2 = w1.alloc (.cells #[.int .u8 43, .int .u8 6, .int .u8 1, .int .u8 5, .int .u8 5, .int .u8 7, .int .u8 3, .int .u8 3] 5) := ⟨_, rfl⟩
        have hb12 : Below w1.heap.size w1 w2 := by rw [hw2]; exact (Below.refl _ w1).alloc (Nat.le_refl _) _
        have hrt2 : RdT w2 (.slice (some ⟨w1.heap.size, 0, none⟩) 8 8) X.code8 := by rw [hw2]; exact RdT.blk (heap_alloc_new w1 _) hr2
        have H2 := Lib.hid (And.intro code8_purp (And.intro hrt2 (And.intro (H1.out.2.2.1.below hb12) (H1.out.2.2.2.trans (hb12.mono H1.out.2.2.2.size)))))
        rw [← hw2]
        clear hw2 hr2 hb12 hrt2
        cases hq : bs.any (· == X.code8)
        · skip
          obtain ⟨Ab, nb, cb, eb, hrb, _⟩ := H2.out.2.1
          injection eb with eb1 eb2 eb3
          subst eb1 eb2 eb3
          have ks1 := run_string hrb 9 Try.underlying9
          have hlit := Rd.lit w2 5 X.code8 [.int .u8 43, .int .u8 6, .int .u8 1, .int .u8 5, .int .u8 5, .int .u8 7, .int .u8 3, .int .u8 3] _ 8 rfl rfl rfl (by omega)
          have ks2 := run_string hlit 9 Try.underlying9
          have hcl : X.code8.toArray = #[43, 6, 1, 5, 5, 7, 3, 3] := rfl
          clear hlit
          go_wp2_with fail
          have hrW : Rd (w2.alloc (.cells #[.int .u8 43, .int .u8 6, .int .u8 1, .int .u8 5, .int .u8 5, .int .u8 7, .int .u8 3, .int .u8 3] 5)) ((w2.alloc (.cells #[.int .u8 43, .int .u8 6, .int .u8 1, .int .u8 5, .int .u8 5, .int .u8 7, .int .u8 3, .int .u8 3] 5))).heap.size (some ⟨w1.heap.size, 0, none⟩) 8 8 X.code8 := hrb.up ((Below.refl _ _).alloc (Nat.le_refl _) _)
          refine (refWrite_lit 6 6 rfl (some ⟨w1.heap.size, 0, none⟩) 8 8 X.code8 (w2.alloc (.cells #[.int .u8 43, .int .u8 6, .int .u8 1, .int .u8 5, .int .u8 5, .int .u8 7, .int .u8 3, .int .u8 3] 5)) hrW (by have := hrb.len; have := H2.out.1.1; omega)).mono ?_
          rintro en w5 ⟨A5, n5, c5, rfl, ho5, hb5⟩
          have hbl5 : Below (w2).heap.size (w2) w5 := ((Below.refl _ _).alloc (Nat.le_refl _) _).trans (hb5.mono (by simp))
          have hXY := (H2.out.2.2.1.below hbl5).alloc (.cells #[.slice A5 n5 c5] 22)
          have hRT := (RdT.own (ho5.mono (Nat.le_refl _) (Nat.le_refl _))).alloc (.cells #[.slice A5 n5 c5] 22)
          have hbb := H2.out.2.2.2.trans (hbl5.mono H2.out.2.2.2.size)
          have HY := Lib.hid (And.intro hXY (And.intro hRT hbb))
          have hs5 := hbb.size
          clear hXY hRT hbb ho5 hb5 hbl5 hrW
          go_wp2_with (first
            | (at_builtin; refine wpList_xs rfl (.tmp 41) (.tmp 44) rfl w0.heap.size _ _ rfl HY.out.1 (by simp; omega) w5.heap.size (.slice A5 n5 c5) (Der.write 6 X.code8) rfl (cell_new1 _ _ _) (by simp) HY.out.2.1 (by have := HX.out.2.2.2; omega) ?_; intro v' w' hX' hB')
            | fail)
          go_roundw
          case rel => exact ⟨j + 1, bs ++ [X.code8], l ++ [(.slice A5 n5 c5, Der.write 6 X.code8)], by omega, by go_num, by simp [HX.out.2.2.1], by rw [List.any_append, hq, Bool.false_or]; simp only [List.any_cons, List.any_nil, Bool.or_false]; first | rfl | (rw [beq_self_eq_true]), fun y hy => by
              rcases List.mem_append.1 hy with hy | hy
              · exact HX.out.1 y hy
              · rw [List.mem_singleton.1 hy]; exact H2.out.1, by rw [List.map_append, List.map_append, HX.out.2.1]; rfl, hX', (HY.out.2.2.alloc hs5 _).trans hB'⟩
          case measure => simp [intOf]; omega
        · skip
          obtain ⟨Ab, nb, cb, eb, hrb, _⟩ := H2.out.2.1
          injection eb with eb1 eb2 eb3
          subst eb1 eb2 eb3
          go_wp2_with fail
          have hrW : Rd w2 (w2).heap.size (some ⟨w1.heap.size, 0, none⟩) 8 8 X.code8 := hrb
          refine (refWrite_lit 6 6 rfl (some ⟨w1.heap.size, 0, none⟩) 8 8 X.code8 w2 hrW (by have := hrb.len; have := H2.out.1.1; omega)).mono ?_
          rintro en w5 ⟨A5, n5, c5, rfl, ho5, hb5⟩
          have hbl5 : Below (w2).heap.size (w2) w5 := hb5
          have hXY := (H2.out.2.2.1.below hbl5).alloc (.cells #[.slice A5 n5 c5] 22)
          have hRT := (RdT.own (ho5.mono (Nat.le_refl _) (Nat.le_refl _))).alloc (.cells #[.slice A5 n5 c5] 22)
          have hbb := H2.out.2.2.2.trans (hbl5.mono H2.out.2.2.2.size)
          have HY := Lib.hid (And.intro hXY (And.intro hRT hbb))
          have hs5 := hbb.size
          clear hXY hRT hbb ho5 hb5 hbl5 hrW
          go_wp2_with (first
            | (at_builtin; refine wpList_xs rfl (.tmp 41) (.tmp 44) rfl w0.heap.size _ _ rfl HY.out.1 (by simp; omega) w5.heap.size (.slice A5 n5 c5) (Der.write 6 X.code8) rfl (cell_new1 _ _ _) (by simp) HY.out.2.1 (by have := HX.out.2.2.2; omega) ?_; intro v' w' hX' hB')
            | fail)
          go_roundw
          case rel => exact ⟨j + 1, bs ++ [X.code8], l ++ [(.slice A5 n5 c5, Der.write 6 X.code8)], by omega, by go_num, by simp [HX.out.2.2.1], by rw [List.any_append, hq]; rfl, fun y hy => by
              rcases List.mem_append.1 hy with hy | hy
              · exact HX.out.1 y hy
              · rw [List.mem_singleton.1 hy]; exact H2.out.1, by rw [List.map_append, List.map_append, HX.out.2.1]; rfl, hX', (HY.out.2.2.alloc hs5 _).trans hB'⟩
          case measure => simp [intOf]; omega
      · have hjc' : ((j : Int) == (code : Int)) = false := by simp; omega
        go_upto_region 11 with fail
        have H2 := H1
        cases hq : bs.any (· == X.code8)
        · skip
          obtain ⟨Ab, nb, cb, eb, hrb, _⟩ := H2.out.2.1
          injection eb with eb1 eb2 eb3
          subst eb1 eb2 eb3
          have ks1 := run_string hrb 9 Try.underlying9
          have hlit := Rd.lit w1 5 X.code8 [.int .u8 43, .int .u8 6, .int .u8 1, .int .u8 5, .int .u8 5, .int .u8 7, .int .u8 3, .int .u8 3] _ 8 rfl rfl rfl (by omega)
          have ks2 := run_string hlit 9 Try.underlying9
          have hcl : X.code8.toArray = #[43, 6, 1, 5, 5, 7, 3, 3] := rfl
          clear hlit
          go_wp2_with fail
          have hrW : Rd (w1.alloc (.cells #[.int .u8 43, .int .u8 6, .int .u8 1, .int .u8 5, .int .u8 5, .int .u8 7, .int .u8 3, .int .u8 3] 5)) ((w1.alloc (.cells #[.int .u8 43, .int .u8 6, .int .u8 1, .int .u8 5, .int .u8 5, .int .u8 7, .int .u8 3, .int .u8 3] 5))).heap.size B m d b := hrb.up ((Below.refl _ _).alloc (Nat.le_refl _) _)
          refine (refWrite_lit 6 6 rfl B m d b (w1.alloc (.cells #[.int .u8 43, .int .u8 6, .int .u8 1, .int .u8 5, .int .u8 5, .int .u8 7, .int .u8 3, .int .u8 3] 5)) hrW (by have := hrb.len; have := H2.out.1.1; omega)).mono ?_
          rintro en w5 ⟨A5, n5, c5, rfl, ho5, hb5⟩
          have hbl5 : Below (w1).heap.size (w1) w5 := ((Below.refl _ _).alloc (Nat.le_refl _) _).trans (hb5.mono (by simp))
          have hXY := (H2.out.2.2.1.below hbl5).alloc (.cells #[.slice A5 n5 c5] 22)
          have hRT := (RdT.own (ho5.mono (Nat.le_refl _) (Nat.le_refl _))).alloc (.cells #[.slice A5 n5 c5] 22)
          have hbb := H2.out.2.2.2.trans (hbl5.mono H2.out.2.2.2.size)
          have HY := Lib.hid (And.intro hXY (And.intro hRT hbb))
          have hs5 := hbb.size
          clear hXY hRT hbb ho5 hb5 hbl5 hrW
          go_wp2_with (first
            | (at_builtin; refine wpList_xs rfl (.tmp 41) (.tmp 44) rfl w0.heap.size _ _ rfl HY.out.1 (by simp; omega) w5.heap.size (.slice A5 n5 c5) (Der.write 6 b) rfl (cell_new1 _ _ _) (by simp) HY.out.2.1 (by have := HX.out.2.2.2; omega) ?_; intro v' w' hX' hB')
            | fail)
          go_roundw
          case rel => exact ⟨j + 1, bs ++ [b], l ++ [(.slice A5 n5 c5, Der.write 6 b)], by omega, by go_num, by simp [HX.out.2.2.1], by rw [List.any_append, hq, Bool.false_or]; simp only [List.any_cons, List.any_nil, Bool.or_false]; first | rfl | (rw [beq_self_eq_true]), fun y hy => by
              rcases List.mem_append.1 hy with hy | hy
              · exact HX.out.1 y hy
              · rw [List.mem_singleton.1 hy]; exact H2.out.1, by rw [List.map_append, List.map_append, HX.out.2.1]; rfl, hX', (HY.out.2.2.alloc hs5 _).trans hB'⟩
          case measure => simp [intOf]; omega
        · skip
          obtain ⟨Ab, nb, cb, eb, hrb, _⟩ := H2.out.2.1
          injection eb with eb1 eb2 eb3
          subst eb1 eb2 eb3
          go_wp2_with fail
          have hrW : Rd w1 (w1).heap.size B m d b := hrb
          refine (refWrite_lit 6 6 rfl B m d b w1 hrW (by have := hrb.len; have := H2.out.1.1; omega)).mono ?_
          rintro en w5 ⟨A5, n5, c5, rfl, ho5, hb5⟩
          have hbl5 : Below (w1).heap.size (w1) w5 := hb5
          have hXY := (H2.out.2.2.1.below hbl5).alloc (.cells #[.slice A5 n5 c5] 22)
          have hRT := (RdT.own (ho5.mono (Nat.le_refl _) (Nat.le_refl _))).alloc (.cells #[.slice A5 n5 c5] 22)
          have hbb := H2.out.2.2.2.trans (hbl5.mono H2.out.2.2.2.size)
          have HY := Lib.hid (And.intro hXY (And.intro hRT hbb))
          have hs5 := hbb.size
          clear hXY hRT hbb ho5 hb5 hbl5 hrW
          go_wp2_with (first
            | (at_builtin; refine wpList_xs rfl (.tmp 41) (.tmp 44) rfl w0.heap.size _ _ rfl HY.out.1 (by simp; omega) w5.heap.size (.slice A5 n5 c5) (Der.write 6 b) rfl (cell_new1 _ _ _) (by simp) HY.out.2.1 (by have := HX.out.2.2.2; omega) ?_; intro v' w' hX' hB')
            | fail)
          go_roundw
          case rel => exact ⟨j + 1, bs ++ [b], l ++ [(.slice A5 n5 c5, Der.write 6 b)], by omega, by go_num, by simp [HX.out.2.2.1], by rw [List.any_append, hq]; rfl, fun y hy => by
              rcases List.mem_append.1 hy with hy | hy
              · exact HX.out.1 y hy
              · rw [List.mem_singleton.1 hy]; exact H2.out.1, by rw [List.map_append, List.map_append, HX.out.2.1]; rfl, hX', (HY.out.2.2.alloc hs5 _).trans hB'⟩
          case measure => simp [intOf]; omega
    · skip
      obtain rfl : j = n3 := by omega
      obtain ⟨Av, cv, rfl, hrdl⟩ := hX.rdl
      have hll : l.length = j := by have := congrArg List.length hlm; simpa [hbs] using this
      have hKB := HK.out.2.2.2.below hb HK.out.2.2.2.lt
      have hrl := rows_len bs fun b h => (hP b h).1
      have hbody : (Ref.seq (bs.map (Der.write 6))).length ≤ 6126 := write_lt 48 (bs.map (Der.write 6)).flatten 6120 (by omega) (by omega)
      have hxl : (X.ext [85, 29, 37] false (Ref.seq (bs.map (Der.write 6)))).length ≤ 6150 := by
        have := (ext_mk7 (f := Fl.bare) (body := Ref.seq (bs.map (Der.write 6))) oid_purposes rfl hbody).2.2.2
        rwa [extq_raw] at this
      have hcatl : (cat l).length ≤ 1099511627000 := by
        unfold cat
        rw [hlm]
        omega
      have H3 := Lib.hid (And.intro hKB (And.intro hrdl (And.intro (HK.out.1.up hb) (And.intro (HK.out.2.2.1.trans (hb.mono HK.out.2.2.1.size)) (And.intro hlm (And.intro hP hbs))))))
      clear hKB hrdl hb hX hP hlm hrl
      go_upto_region 13 with fail
      refine wp_region_two 12 11 (JL [(fun v _ => v = k.val (.slice A0 n0 c0) (.slice A1 n1 c1) (.slice A2 n2 c2)), (fun v w => RdT w v ([85, 29, 37])), (fun v _ => v = .slice Av l.length cv), (fun v w => RdT w v (Ref.seq (bs.map (Der.write 6)))), (fun v w => RdT w v (X.ext [85, 29, 37] false (Ref.seq (bs.map (Der.write 6))))), (RX [X.ext [85, 29, 37] false (Ref.seq (bs.map (Der.write 6)))]), (fun v w => RdT w v (Ref.wr (Ref.seq (k.els.map (·.2.2) ++ X.tail [X.ext [85, 29, 37] false (Ref.seq (bs.map (Der.write 6)))])) (k.sig.take 100))), (JP (wr.heap.size) (Ref.wr (Ref.seq (k.els.map (·.2.2) ++ X.tail [X.ext [85, 29, 37] false (Ref.seq (bs.map (Der.write 6)))])) (k.sig.take 100)) 0), (JP (wr.heap.size) (Ref.wr (Ref.seq (k.els.map (·.2.2) ++ X.tail [X.ext [85, 29, 37] false (Ref.seq (bs.map (Der.write 6)))])) (k.sig.take 100)) 0), (JP (wr.heap.size) (Ref.wr (Ref.seq (k.els.map (·.2.2) ++ X.tail [X.ext [85, 29, 37] false (Ref.seq (bs.map (Der.write 6)))])) (k.sig.take 100)) 1), (JP (wr.heap.size) (Ref.wr (Ref.seq (k.els.map (·.2.2) ++ X.tail [X.ext [85, 29, 37] false (Ref.seq (bs.map (Der.write 6)))])) (k.sig.take 100)) 2), (JP (wr.heap.size) (Ref.wr (Ref.seq (k.els.map (·.2.2) ++ X.tail [X.ext [85, 29, 37] false (Ref.seq (bs.map (Der.write 6)))])) (k.sig.take 100)) 3), (fun _ _ => True), (JP (wr.heap.size) (Ref.wr (Ref.seq (k.els.map (·.2.2) ++ X.tail [X.ext [85, 29, 37] false (Ref.seq (bs.map (Der.write 6)))])) (k.sig.take 100)) 2)]) (JV (wr.heap.size) (Ref.wr (Ref.seq (k.els.map (·.2.2) ++ X.tail [X.ext [85, 29, 37] false (Ref.seq (bs.map (Der.write 6)))])) (k.sig.take 100))) (Below wr.heap.size wr) RN (SN (wr.heap.size)) ?hm ?hmono ?hmonoS JV.rn ?hGR ?hGS ?hd ?hg ?hA ?hW ((Below.refl _ _).drew) ?hs ?hdone
      case hm => rfl
      case hmono => exact JL.rn (B := wr.heap.size) (Sta.cons (Sta.eq _ _) (Sta.cons (Sta.rdt _ _) (Sta.cons (Sta.eq _ _) (Sta.cons (Sta.rdt _ _) (Sta.cons (Sta.rdt _ _) (Sta.cons (Sta.rx _ _) (Sta.cons (Sta.rdt _ _) (Sta.cons (Sta.jp _ _ _) (Sta.cons (Sta.jp _ _ _) (Sta.cons (Sta.jp _ _ _) (Sta.cons (Sta.jp _ _ _) (Sta.cons (Sta.jp _ _ _) (Sta.cons (Sta.true _) (Sta.cons (Sta.jp _ _ _) (Sta.nil)))))))))))))))
      case hmonoS => exact JL.sn (B := wr.heap.size) (Sta.cons (Sta.eq _ _) (Sta.cons (Sta.rdt _ _) (Sta.cons (Sta.eq _ _) (Sta.cons (Sta.rdt _ _) (Sta.cons (Sta.rdt _ _) (Sta.cons (Sta.rx _ _) (Sta.cons (Sta.rdt _ _) (Sta.cons (Sta.jp _ _ _) (Sta.cons (Sta.jp _ _ _) (Sta.cons (Sta.jp _ _ _) (Sta.cons (Sta.jp _ _ _) (Sta.cons (Sta.jp _ _ _) (Sta.cons (Sta.true _) (Sta.cons (Sta.jp _ _ _) (Sta.nil)))))))))))))))
      case hGR => exact fun w w' h1 h2 => h1.trans (Below.mono h2 h1.size)
      case hGS => exact fun w w' h1 h2 => h1.trans h2.1
      case hd => show dstsOk _ 76 = true; decide +kernel
      case hg => decide +kernel
      case hA => decide +kernel
      case hW => decide +kernel
      case hs =>
        refine ⟨two_else (by decide) ?_, two_else (by decide) ?_, two_else (by decide) ?_, two_else (by decide) ?_, two_else (by decide) ?_, two_else (by decide) ?_, two_else (by decide) ?_, two_else (by decide) ?_, two_else (by decide) ?_, two_else (by decide) ?_, two_else (by decide) ?_, two_else (by decide) ?_, two_then ?_, two_else (by decide) ?_, trivial⟩
        · intro a W hfr hG hdep; exact N_case rfl (by simp) (hfr 3 (by decide +kernel)) (H3.out.1.below hG H3.out.1.lt)
        · intro a W hfr hG hdep; exact N_lit rfl (by simp) (by omega) (by omega) rfl rfl rfl
        · intro a W hfr hG hdep; exact N_move rfl (by simp) (hfr 7 (by decide +kernel))
        · intro a W hfr hG hdep; exact N_seqL rfl (by simp) (hdep 2 (by decide +kernel)) (H3.out.2.1.up hG) H3.out.2.2.2.2.1 (by omega) hcatl
        · intro a W hfr hG hdep; exact N_extT rfl (by simp) (hdep 1 (by decide +kernel)) rfl (hdep 3 (by decide +kernel)) (by simp) (by omega)
        · intro a W hfr hG hdep; exact N_row1 rfl (by simp) (hdep 4 (by decide +kernel))
        · intro a W hfr hG hdep; exact N_with rfl (by simp) (hdep 0 (by decide +kernel)) (hdep 5 (by decide +kernel)) (by simp only [List.flatten_cons, List.flatten_nil, List.append_nil]; omega) (H3.out.2.2.1.up hG)
        · intro a W hfr hG hdep; exact N_parse (B := wr.heap.size) rfl (by simp) (hdep 6 (by decide +kernel))
        · intro a W hfr hG hdep; exact N_move rfl (by simp) (hdep 7 (by decide +kernel))
        · intro a W hfr hG hdep; exact N_ext0 (B := wr.heap.size) rfl (by simp) (hdep 8 (by decide +kernel))
        · intro a W hfr hG hdep; exact N_ext1 (B := wr.heap.size) rfl (by simp) (hdep 8 (by decide +kernel))
        · intro a W hfr hG hdep; exact N_newc (B := wr.heap.size) (b := Ref.wr (Ref.seq (k.els.map (·.2.2) ++ X.tail [X.ext [85, 29, 37] false (Ref.seq (bs.map (Der.write 6)))])) (k.sig.take 100)) rfl (by simp) hG.size
        · intro a W hfr hG hdep; exact N_store (p := 11) (fun _ _ => trivial) rfl rfl hG.size (hdep 11 (by decide +kernel)) rfl (hdep 9 (by decide +kernel))
        · intro a W hfr hG hdep; exact N_assign rfl (by simp) (hdep 10 (by decide +kernel))
      case hdone =>
        intro a W hdf hsz hfr hG hJ hV
        have hV : JV (wr.heap.size) (Ref.wr (Ref.seq (k.els.map (·.2.2) ++ X.tail [X.ext [85, 29, 37] false (Ref.seq (bs.map (Der.write 6)))])) (k.sig.take 100)) (a.eval (.tmp 11)) W := hV
        obtain ⟨gv, Cv, hgv, hgB, hBv, hPv⟩ := hV
        have e := arr_eta a 76 hsz hdf
        rw [show (List.range 76).map (fun i => a.eval (.tmp i)) = a.eval (.tmp 0) :: a.eval (.tmp 1) :: a.eval (.tmp 2) :: a.eval (.tmp 3) :: a.eval (.tmp 4) :: a.eval (.tmp 5) :: a.eval (.tmp 6) :: a.eval (.tmp 7) :: a.eval (.tmp 8) :: a.eval (.tmp 9) :: a.eval (.tmp 10) :: a.eval (.tmp 11) :: a.eval (.tmp 12) :: a.eval (.tmp 13) :: a.eval (.tmp 14) :: a.eval (.tmp 15) :: a.eval (.tmp 16) :: a.eval (.tmp 17) :: a.eval (.tmp 18) :: a.eval (.tmp 19) :: a.eval (.tmp 20) :: a.eval (.tmp 21) :: a.eval (.tmp 22) :: a.eval (.tmp 23) :: a.eval (.tmp 24) :: a.eval (.tmp 25) :: a.eval (.tmp 26) :: a.eval (.tmp 27) :: a.eval (.tmp 28) :: a.eval (.tmp 29) :: a.eval (.tmp 30) :: a.eval (.tmp 31) :: a.eval (.tmp 32) :: a.eval (.tmp 33) :: a.eval (.tmp 34) :: a.eval (.tmp 35) :: a.eval (.tmp 36) :: a.eval (.tmp 37) :: a.eval (.tmp 38) :: a.eval (.tmp 39) :: a.eval (.tmp 40) :: a.eval (.tmp 41) :: a.eval (.tmp 42) :: a.eval (.tmp 43) :: a.eval (.tmp 44) :: a.eval (.tmp 45) :: a.eval (.tmp 46) :: a.eval (.tmp 47) :: a.eval (.tmp 48) :: a.eval (.tmp 49) :: a.eval (.tmp 50) :: a.eval (.tmp 51) :: a.eval (.tmp 52) :: a.eval (.tmp 53) :: a.eval (.tmp 54) :: a.eval (.tmp 55) :: a.eval (.tmp 56) :: a.eval (.tmp 57) :: a.eval (.tmp 58) :: a.eval (.tmp 59) :: a.eval (.tmp 60) :: a.eval (.tmp 61) :: a.eval (.tmp 62) :: a.eval (.tmp 63) :: a.eval (.tmp 64) :: a.eval (.tmp 65) :: a.eval (.tmp 66) :: a.eval (.tmp 67) :: a.eval (.tmp 68) :: a.eval (.tmp 69) :: a.eval (.tmp 70) :: a.eval (.tmp 71) :: a.eval (.tmp 72) :: a.eval (.tmp 73) :: a.eval (.tmp 74) :: a.eval (.tmp 75) :: [] from rfl] at e
        rw [hgv] at e
        rw [show a.eval (.tmp 12) = .int .i64 ((Cert.parse (Ref.wr (Ref.seq (k.els.map (·.2.2) ++ X.tail [X.ext [85, 29, 37] false (Ref.seq (bs.map (Der.write 6)))])) (k.sig.take 100))).err : Int) from hJ 13 (by decide)] at e
        rw [show a.eval (.tmp 1) = .slice A3 j c3 from hfr 1 (by decide +kernel)] at e
        rw [show a.eval (.tmp 2) = .int .u8 (code : Int) from hfr 2 (by decide +kernel)] at e
        rw [show a.eval (.tmp 3) = .pointer (some ⟨w.heap.size, 0, none⟩) from hfr 3 (by decide +kernel)] at e
        rw [show a.eval (.tmp 6) = .bool false from hfr 6 (by decide +kernel)] at e
        rw [show a.eval (.tmp 7) = .slice Av l.length cv from hfr 7 (by decide +kernel)] at e
        rw [show a.eval (.tmp 8) = .bool (bs.any (· == X.code8)) from hfr 8 (by decide +kernel)] at e
        clear hgv
        generalize a.eval (.tmp 0) = u0 at e
        generalize a.eval (.tmp 4) = u4 at e
        generalize a.eval (.tmp 5) = u5 at e
        generalize a.eval (.tmp 9) = u9 at e
        generalize a.eval (.tmp 10) = u10 at e
        generalize a.eval (.tmp 13) = u13 at e
        generalize a.eval (.tmp 14) = u14 at e
        generalize a.eval (.tmp 15) = u15 at e
        generalize a.eval (.tmp 16) = u16 at e
        generalize a.eval (.tmp 17) = u17 at e
        generalize a.eval (.tmp 18) = u18 at e
        generalize a.eval (.tmp 19) = u19 at e
        generalize a.eval (.tmp 20) = u20 at e
        generalize a.eval (.tmp 21) = u21 at e
        generalize a.eval (.tmp 22) = u22 at e
        generalize a.eval (.tmp 23) = u23 at e
        generalize a.eval (.tmp 24) = u24 at e
        generalize a.eval (.tmp 25) = u25 at e
        generalize a.eval (.tmp 26) = u26 at e
        generalize a.eval (.tmp 27) = u27 at e
        generalize a.eval (.tmp 28) = u28 at e
        generalize a.eval (.tmp 29) = u29 at e
        generalize a.eval (.tmp 30) = u30 at e
        generalize a.eval (.tmp 31) = u31 at e
        generalize a.eval (.tmp 32) = u32 at e
        generalize a.eval (.tmp 33) = u33 at e
        generalize a.eval (.tmp 34) = u34 at e
        generalize a.eval (.tmp 35) = u35 at e
        generalize a.eval (.tmp 36) = u36 at e
        generalize a.eval (.tmp 37) = u37 at e
        generalize a.eval (.tmp 38) = u38 at e
        generalize a.eval (.tmp 39) = u39 at e
        generalize a.eval (.tmp 40) = u40 at e
        generalize a.eval (.tmp 41) = u41 at e
        generalize a.eval (.tmp 42) = u42 at e
        generalize a.eval (.tmp 43) = u43 at e
        generalize a.eval (.tmp 44) = u44 at e
        generalize a.eval (.tmp 45) = u45 at e
        generalize a.eval (.tmp 46) = u46 at e
        generalize a.eval (.tmp 47) = u47 at e
        generalize a.eval (.tmp 48) = u48 at e
        generalize a.eval (.tmp 49) = u49 at e
        generalize a.eval (.tmp 50) = u50 at e
        generalize a.eval (.tmp 51) = u51 at e
        generalize a.eval (.tmp 52) = u52 at e
        generalize a.eval (.tmp 53) = u53 at e
        generalize a.eval (.tmp 54) = u54 at e
        generalize a.eval (.tmp 55) = u55 at e
        generalize a.eval (.tmp 56) = u56 at e
        generalize a.eval (.tmp 57) = u57 at e
        generalize a.eval (.tmp 58) = u58 at e
        generalize a.eval (.tmp 59) = u59 at e
        generalize a.eval (.tmp 60) = u60 at e
        generalize a.eval (.tmp 61) = u61 at e
        generalize a.eval (.tmp 62) = u62 at e
        generalize a.eval (.tmp 63) = u63 at e
        generalize a.eval (.tmp 64) = u64 at e
        generalize a.eval (.tmp 65) = u65 at e
        generalize a.eval (.tmp 66) = u66 at e
        generalize a.eval (.tmp 67) = u67 at e
        generalize a.eval (.tmp 68) = u68 at e
        generalize a.eval (.tmp 69) = u69 at e
        generalize a.eval (.tmp 70) = u70 at e
        generalize a.eval (.tmp 71) = u71 at e
        generalize a.eval (.tmp 72) = u72 at e
        generalize a.eval (.tmp 73) = u73 at e
        generalize a.eval (.tmp 74) = u74 at e
        generalize a.eval (.tmp 75) = u75 at e
        subst e
        clear hfr hJ hsz hdf
        have hbW := H3.out.2.2.2.1.trans (hG.mono H3.out.2.2.2.1.size)
        obtain ⟨q, hq⟩ : ∃ q, bs.any (· == X.code8) = q := ⟨_, rfl⟩
        have hfl : (j = 0 ∧ ((Cert.parse (Ref.wr (Ref.seq (k.els.map (·.2.2) ++ X.tail [X.ext [85, 29, 37] false (Ref.seq (bs.map (Der.write 6)))])) (k.sig.take 100))).err : Int) = 9) ∨ (j ≠ 0 ∧ ((Cert.parse (Ref.wr (Ref.seq (k.els.map (·.2.2) ++ X.tail [X.ext [85, 29, 37] false (Ref.seq (bs.map (Der.write 6)))])) (k.sig.take 100))).err : Int) = 0 ∧ Cv.fl.code = q) := by
          rcases purposes_parse k H3.out.2.2.1.path bs H3.out.2.2.2.2.2.1 (by omega) with ⟨h1, h2⟩ | ⟨h1, s, h2, h3⟩
          · exact .inl ⟨by rw [← hbs, h1]; rfl, by rw [h2]; rfl⟩
          · rw [h2] at hPv
            obtain ⟨_, _, _, hf, _⟩ := hPv.out
            exact .inr ⟨by have := List.length_pos_iff.2 h1; omega, by rw [h2]; rfl, by rw [hf, h3, hq]⟩
        clear hPv
        generalize ((Cert.parse (Ref.wr (Ref.seq (k.els.map (·.2.2) ++ X.tail [X.ext [85, 29, 37] false (Ref.seq (bs.map (Der.write 6)))])) (k.sig.take 100))).err : Int) = er at hfl ⊢
        rw [hq]
        have kco : W.cell? ⟨gv, 23, none⟩ = some (.bool Cv.fl.code) := hBv.at_ 23
        have HW2 := Lib.hid hbW
        rw [hll]
        clear hbW hBv hgB hG hbody hxl hcatl H3 hq
        rcases hfl with ⟨rfl, rfl⟩ | ⟨h0, rfl, hco⟩
        · skip
          go_wp2_with fail
          refine (works12_any _).mono ?_
          rintro e wz ⟨rfl, hbz⟩
          go_wp2
          go_ret
          exact ⟨rfl, HW2.out.trans (hbz.mono HW2.out.size)⟩
        · have hz : ((j : Int) == 0) = false := by simp; omega
          rw [hco] at kco
          clear hco h0
          go_wp2_with fail
          refine (works12_any _).mono ?_
          rintro e wz ⟨rfl, hbz⟩
          go_wp2
          go_ret
          exact ⟨rfl, HW2.out.trans (hbz.mono HW2.out.size)⟩
theorem certPurposes_walk (w : World) (k : Kase) (A0 A1 A2 : Option Addr) (n0 c0 n1 c1 n2 c2 : Nat) (hk : k.come w A0 A1 A2 n0 c0 n1 c1 n2 c2) (A3 : Option Addr) (n3 c3 : Nat) (L : List (List Nat)) (h3 : RdUs w w.heap.size A3 n3 c3 L) (code : Int) (hc : (Lit.int .u8 code).wf = true) :
    Calls Try.prog 9 #[k.val (.slice A0 n0 c0) (.slice A1 n1 c1) (.slice A2 n2 c2), .slice A3 n3 c3, .int .u8 code] w fun e w' => e = .returned (.bool true) ∧ Below w.heap.size w w' := by
  by_cases hn : (20 : Int) < n3
  · exact purposes_large _ A3 n3 c3 code w hn k _ _ _ rfl
  · have h1 := nat_of_wf hc rfl
    have h2 : IntKind.u8.max = 255 := rfl
    rw [h1.1]
    exact purposes_main k A0 A1 A2 n0 c0 n1 c1 n2 c2 A3 n3 c3 L code.toNat (by omega) w hk h3 hn
end Go.Proofs.Ytmnekhliblkibaa
