/- The walk of the law CertUsages. -/
import Derived.Test.YtmnekhliblkibaaCase2
import Derived.Test.YtmnekhliblkibaaPlainU2
namespace Go.Proofs.Ytmnekhliblkibaa
open Go.RowKit
set_option maxRecDepth 1000000
set_option linter.unusedVariables false
set_option linter.unusedSimpArgs false
set_option maxHeartbeats 8000000

/-- A slice of bools that reads as bits. -/
structure RdQ (w : World) (B : Nat) (A : Option Addr) (n c : Nat) (bits : List Bool) : Prop where
  len : bits.length = n
  spot : 0 < n → ∃ b o, A = some ⟨b, o, none⟩ ∧ b < B ∧ ∀ (j : Nat) (v : Bool), bits[j]? = some v → w.cell? ⟨b, o + j, none⟩ = some (.bool v)
theorem RdQ.up {w w' : World} {A : Option Addr} {n c : Nat} {bits : List Bool} (h : RdQ w w.heap.size A n c bits) (hb : Below w.heap.size w w') : RdQ w' w'.heap.size A n c bits := by
  refine ⟨h.len, fun h0 => ?_⟩
  obtain ⟨b, o, e, hB, hc⟩ := h.spot h0
  exact ⟨b, o, e, by have := hb.size; omega, fun j v hv => (hb.cell (p := ⟨b, o + j, none⟩) hB).trans (hc j v hv)⟩
theorem usages_large (KV : Value) (A : Option Addr) (n c : Nat) (q : Bool) (w : World) (hn : (40 : Int) < n) (k : Kase) (v0 v1 v2 : Value) (hk : KV = k.val v0 v1 v2) :
    Calls Try.prog 7 #[KV, .slice A n c, .bool q] w (LawPost w) := by
  subst hk
  unfold Kase.val
  go_enter Try.func7, Try.ntmps7
  go_wp2_with fail
  refine (works12_any _).mono ?_
  rintro e w1 ⟨rfl, hb1⟩
  go_wp2
  go_ret
  exact ⟨rfl, (((Below.refl _ w).alloc (Nat.le_refl _) _).trans (hb1.mono (by simp)))⟩
theorem usages_main (k : Kase) (A0 A1 A2 : Option Addr) (n0 c0 n1 c1 n2 c2 : Nat) (A3 : Option Addr) (n3 c3 : Nat) (bits : List Bool) (q : Bool) (w : World) (hk : k.come w A0 A1 A2 n0 c0 n1 c1 n2 c2)
    (h3 : RdQ w w.heap.size A3 n3 c3 bits) (hn : ¬ (40 : Int) < n3) :
    Calls Try.prog 7 #[k.val (.slice A0 n0 c0) (.slice A1 n1 c1) (.slice A2 n2 c2), .slice A3 n3 c3, .bool q] w (LawPost w) := by
  obtain ⟨w0, hw0, hKB0⟩ : ∃ w0, w0 = w.alloc (.cells (k.row (.slice A0 n0 c0) (.slice A1 n1 c1) (.slice A2 n2 c2)) 42) ∧ Blk w0 w.heap.size 42 (k.row (.slice A0 n0 c0) (.slice A1 n1 c1) (.slice A2 n2 c2)) := ⟨_, rfl, Blk.new w _ _⟩
  have hb0 : Below w.heap.size w w0 := by rw [hw0]; exact (Below.refl _ w).alloc (Nat.le_refl _) _
  have HK := Lib.hid (And.intro (hk.up hb0) (And.intro (h3.up hb0) (And.intro hb0 hKB0)))
  clear hk h3 hKB0 hb0
  obtain ⟨r, hr⟩ : ∃ r, (n3 + 7) / 8 = r := ⟨_, rfl⟩
  have hrI : 1 + ((n3 : Int) + 7) / 8 = ((1 + r : Nat) : Int) := by omega
  have hmk : ∀ W : World, (Instr.makeSlice 22 (.int .i64 (1 + (r : Int))) (.int .i64 (1 + (r : Int)))).run Try.prog W = .ok (.slice (some ⟨W.heap.size, 0, none⟩) (1 + r) (1 + r)) (W.alloc (.cells (zeroB (1 + r)) 5)) := fun W => by
    have := run_makeB (1 + r) (by omega) W
    rw [show ((1 + r : Nat) : Int) = 1 + (r : Int) by omega] at this
    exact this
  have hbz := Blk.new w0 5 (zeroB (1 + r))
  have z0 := hbz.frozen 0
  have k00 : (w0.alloc (.cells (zeroB (1 + r)) 5)).cell? ⟨w0.heap.size, 0, none⟩ = some (.int .u8 0) := by rw [hbz.cell 0]; unfold zeroB; rw [List.getElem?_toArray, List.getElem?_map, List.getElem?_replicate, if_pos (by omega)]; rfl
  have hr0 : (0 : Int) < 1 + (r : Int) := by omega
  have HB := Lib.hid hbz
  clear hbz
  obtain ⟨KV, hKV⟩ : ∃ KV, KV = k.val (.slice A0 n0 c0) (.slice A1 n1 c1) (.slice A2 n2 c2) := ⟨_, rfl⟩
  have hKV2 : KV = Value.agg (k.row (.slice A0 n0 c0) (.slice A1 n1 c1) (.slice A2 n2 c2)) := hKV
  rw [← hKV]
  clear hKV
  subst hKV2
  go_enter Try.func7, Try.ntmps7
  go_upto_region 3 with fail
  rw [← hw0]
  have HW := Lib.hid hw0
  clear hw0
  go_upto_region 7 with fail
  have hub : (zeroB (1 + r)).setIfInBounds 0 (Value.int .u8 (-((n3 : Int) % 8) % 8)) = ((Ref.ub0 n3).map bv).toArray := by
    unfold zeroB Ref.ub0
    rw [hr, Nat.add_comm 1 r, List.replicate_succ]
    have hv : (UInt8.ofNat ((8 - n3 % 8) % 8)).toNat = (8 - n3 % 8) % 8 := by rw [UInt8.toNat_ofNat']; omega
    simp only [List.map_cons, List.setIfInBounds_toArray, List.set_cons_zero, bv, hv]
    congr 3
    omega
  have hub0 : (Ref.ub0 n3).length = 1 + r := by unfold Ref.ub0; rw [hr]; simp; omega
  obtain ⟨u, hu⟩ : ∃ u, U.sum bits n3 = u := ⟨_, rfl⟩
  have hlay : ∀ k, (Ref.lay u (Ref.ub0 n3) k).length = 1 + r := fun k => by
    induction k with
    | zero => exact hub0
    | succ k ih => unfold Ref.lay; rw [List.length_set]; exact ih
  rw [hub]
  have HL := Lib.hid (And.intro hr (And.intro hlay (And.intro (Blk.new w0 5 ((Ref.ub0 n3).map bv).toArray) hu)))
  clear hub hub0 hlay hr hrI k00 z0 hmk hu
  go_loopw [8, 9] (fun v i wr => ∃ j : Nat, j ≤ n3 ∧ i = .int .i64 j ∧ v = .int .i64 (U.sum bits j : Nat) ∧ Below w0.heap.size w0 wr ∧ Blk wr w0.heap.size 5 ((Ref.lay u (Ref.ub0 n3) j).map bv).toArray) (fun _ i _ => n3 - (intOf i).toNat)
  case atStart => exact ⟨0, Nat.zero_le _, rfl, rfl, (Below.refl _ _).alloc (Nat.le_refl _) _, HL.out.2.2.1⟩
  case round =>
    obtain ⟨j, hj, rfl, rfl, hb, hB⟩ := hrel
    by_cases hlt : j < n3
    · have hlt' : (j : Int) < n3 := by omega
      obtain ⟨bq, oq, hAq, hbq, hcq⟩ := HK.out.2.1.spot (by omega)
      subst hAq
      obtain ⟨x, hx⟩ : ∃ x, bits[j]? = some x := ⟨bits[j]'(by have := HK.out.2.1.len; omega), List.getElem?_eq_getElem _⟩
      have kx : wr.cell? ⟨bq, oq + j, none⟩ = some (.bool x) := (hb.cell (p := ⟨bq, oq + j, none⟩) hbq).trans (hcq j x hx)
      have hs40 : U.sum bits j < 2199023255552 := Nat.lt_of_lt_of_le (sum_lt bits j) (by have : 2 ^ j ≤ 2 ^ 41 := Nat.pow_le_pow_right (by omega) (by omega); omega)
      have hbit := sum_bit bits j n3 hlt
      rw [HL.out.2.2.2, List.getD_eq_getElem?_getD, hx, Option.getD_some] at hbit
      cases x
      · have HX := Lib.hid (And.intro hb (And.intro hB (And.intro hx hbit)))
        clear hb hB hx hcq hbit
        go_wp2
        go_roundw
        case rel => exact ⟨j + 1, by omega, by go_num, by rw [U.sum, List.getD_eq_getElem?_getD, HX.out.2.2.1]; rfl, HX.out.1, by rw [lay_false u _ j (by rw [HX.out.2.2.2]; rfl)]; exact HX.out.2.1⟩
        case measure => simp [intOf]; omega
      · obtain ⟨jj, hjj⟩ : ∃ jj, 1 + j / 8 = jj := ⟨_, rfl⟩
        have hjI : 1 + (j : Int) / 8 = (jj : Int) := by omega
        have hjr : (jj : Int) < 1 + (r : Int) := by have := HL.out.1; omega
        have hlen := HL.out.2.1 j
        obtain ⟨cc, hcc⟩ : ∃ cc, (Ref.lay u (Ref.ub0 n3) j).getD jj 0 = cc := ⟨_, rfl⟩
        have kc : wr.cell? ⟨w0.heap.size, jj, none⟩ = some (.int .u8 (cc.toNat : Int)) := by
          rw [hB.cell jj, List.getElem?_toArray, List.getElem?_map, List.getElem?_eq_getElem (by omega)]
          rw [List.getD_eq_getElem?_getD, List.getElem?_eq_getElem (by omega)] at hcc
          simp only [Option.getD_some] at hcc
          rw [Option.map_some, hcc]; rfl
        have kz := hB.frozen jj
        have HX := Lib.hid (And.intro hb (And.intro hB (And.intro hjj (And.intro hcc (And.intro hx hbit)))))
        clear hb hB hlen hcc hx hcq hbit hjj
        go_wp2
        rw [bit_shr j cc, sum_wrap _ j hs40 (by omega)]
        go_roundw
        case rel =>
          refine ⟨j + 1, by omega, by go_num, ?_, HX.out.1.setCell (by simp) _, ?_⟩
          · rw [U.sum, List.getD_eq_getElem?_getD, HX.out.2.2.2.2.1]
            rfl
          have := HX.out.2.1.set_ jj (bv (cc ||| UInt8.ofNat (1 * 2 ^ (7 - j % 8))))
          rw [List.setIfInBounds_toArray, ← List.map_set] at this
          rw [lay_true u _ j jj cc HX.out.2.2.1 HX.out.2.2.2.1 (by rw [HX.out.2.2.2.2.2]; rfl)]
          exact this
        case measure => simp [intOf]; omega
    · obtain rfl : j = n3 := by omega
      have hrd : Rd wr wr.heap.size (some ⟨w0.heap.size, 0, none⟩) (1 + r) (1 + r) (U.laid u j) := by
        have hlt := hB.lt
        show Rd wr wr.heap.size (some ⟨w0.heap.size, 0, none⟩) (1 + r) (1 + r) (Ref.lay u (Ref.ub0 j) j)
        refine ⟨HL.out.2.1 j, Nat.le_refl _, by have := HL.out.1; omega, (fun e => by cases e), fun _ => ⟨_, _, rfl, hlt⟩, by simp [HL.out.2.1 j], fun _ => ⟨_, rfl, hlt, fun i v hv => ?_⟩⟩
        rw [Addr.add_lit, Nat.zero_add, hB.cell i]
        simpa using hv
      have hKB := HK.out.2.2.2.below hb HK.out.2.2.2.lt
      have H3 := Lib.hid (And.intro hKB (And.intro hrd (And.intro (HK.out.1.up hb) (And.intro (HK.out.2.1.up hb) (HK.out.2.2.1.trans (hb.mono HK.out.2.2.1.size))))))
      have hll : (U.laid u j).length ≤ 6 := laid_small u j (by omega)
      have hwl : (Der.write 3 (U.laid u j)).length ≤ 12 := write_lt 3 (U.laid u j) 6 hll (by omega)
      have hxl : (X.ext [85, 29, 15] q (Der.write 3 (U.laid u j))).length ≤ 2000 := by
        have h1 := (extq_mk (f := Fl.bare) (q := q) (body := Der.write 3 (U.laid u j)) oid_usage (by simp) (by omega)).2.2.2
        rw [extq_raw] at h1
        omega
      clear hKB hrd hb hB
      go_upto_region 12 with fail
      refine wp_region_two 13 12 (JL [(fun v _ => v = k.val (.slice A0 n0 c0) (.slice A1 n1 c1) (.slice A2 n2 c2)), (fun v w => RdT w v [85, 29, 15]), (fun v _ => v = .bool q), (fun v _ => v = .slice (some ⟨w0.heap.size, 0, none⟩) (1 + r) (1 + r)), (fun v w => RdT w v (Der.write 3 (U.laid u j))), (fun v w => RdT w v (X.ext [85, 29, 15] q (Der.write 3 (U.laid u j)))), (RX [X.ext [85, 29, 15] q (Der.write 3 (U.laid u j))]), (fun v w => RdT w v (Ref.wr (Ref.seq (k.els.map (·.2.2) ++ X.tail [X.ext [85, 29, 15] q (Der.write 3 (U.laid u j))])) (k.sig.take 100))), (JP (wr.heap.size) (Ref.wr (Ref.seq (k.els.map (·.2.2) ++ X.tail [X.ext [85, 29, 15] q (Der.write 3 (U.laid u j))])) (k.sig.take 100)) 0), (JP (wr.heap.size) (Ref.wr (Ref.seq (k.els.map (·.2.2) ++ X.tail [X.ext [85, 29, 15] q (Der.write 3 (U.laid u j))])) (k.sig.take 100)) 0), (JP (wr.heap.size) (Ref.wr (Ref.seq (k.els.map (·.2.2) ++ X.tail [X.ext [85, 29, 15] q (Der.write 3 (U.laid u j))])) (k.sig.take 100)) 1), (JP (wr.heap.size) (Ref.wr (Ref.seq (k.els.map (·.2.2) ++ X.tail [X.ext [85, 29, 15] q (Der.write 3 (U.laid u j))])) (k.sig.take 100)) 2), (JP (wr.heap.size) (Ref.wr (Ref.seq (k.els.map (·.2.2) ++ X.tail [X.ext [85, 29, 15] q (Der.write 3 (U.laid u j))])) (k.sig.take 100)) 3), (fun _ _ => True), (JP (wr.heap.size) (Ref.wr (Ref.seq (k.els.map (·.2.2) ++ X.tail [X.ext [85, 29, 15] q (Der.write 3 (U.laid u j))])) (k.sig.take 100)) 2)]) (JV (wr.heap.size) (Ref.wr (Ref.seq (k.els.map (·.2.2) ++ X.tail [X.ext [85, 29, 15] q (Der.write 3 (U.laid u j))])) (k.sig.take 100))) (Below wr.heap.size wr) RN (SN (wr.heap.size)) ?hm ?hmono ?hmonoS JV.rn ?hGR ?hGS ?hd ?hg ?hA ?hW ((Below.refl _ _).drew) ?hs ?hdone
      case hm => rfl
      case hmono => exact JL.rn (B := wr.heap.size) (Sta.cons (Sta.eq _ _) (Sta.cons (Sta.rdt _ _) (Sta.cons (Sta.eq _ _) (Sta.cons (Sta.eq _ _) (Sta.cons (Sta.rdt _ _) (Sta.cons (Sta.rdt _ _) (Sta.cons (Sta.rx _ _) (Sta.cons (Sta.rdt _ _) (Sta.cons (Sta.jp _ _ _) (Sta.cons (Sta.jp _ _ _) (Sta.cons (Sta.jp _ _ _) (Sta.cons (Sta.jp _ _ _) (Sta.cons (Sta.jp _ _ _) (Sta.cons (Sta.true _) (Sta.cons (Sta.jp _ _ _) (Sta.nil))))))))))))))))
      case hmonoS => exact JL.sn (B := wr.heap.size) (Sta.cons (Sta.eq _ _) (Sta.cons (Sta.rdt _ _) (Sta.cons (Sta.eq _ _) (Sta.cons (Sta.eq _ _) (Sta.cons (Sta.rdt _ _) (Sta.cons (Sta.rdt _ _) (Sta.cons (Sta.rx _ _) (Sta.cons (Sta.rdt _ _) (Sta.cons (Sta.jp _ _ _) (Sta.cons (Sta.jp _ _ _) (Sta.cons (Sta.jp _ _ _) (Sta.cons (Sta.jp _ _ _) (Sta.cons (Sta.jp _ _ _) (Sta.cons (Sta.true _) (Sta.cons (Sta.jp _ _ _) (Sta.nil))))))))))))))))
      case hGR => exact fun w w' h1 h2 => h1.trans (Below.mono h2 h1.size)
      case hGS => exact fun w w' h1 h2 => h1.trans h2.1
      case hd => show dstsOk _ 106 = true; decide +kernel
      case hg => decide +kernel
      case hA => decide +kernel
      case hW => decide +kernel
      case hs =>
        refine ⟨two_else (by decide) ?_, two_else (by decide) ?_, two_else (by decide) ?_, two_else (by decide) ?_, two_else (by decide) ?_, two_else (by decide) ?_, two_else (by decide) ?_, two_else (by decide) ?_, two_else (by decide) ?_, two_else (by decide) ?_, two_else (by decide) ?_, two_else (by decide) ?_, two_else (by decide) ?_, two_then ?_, two_else (by decide) ?_, trivial⟩
        · intro a W hfr hG hdep; exact N_case rfl (by simp) (hfr 3 (by decide +kernel)) (H3.out.1.below hG H3.out.1.lt)
        · intro a W hfr hG hdep; exact N_lit rfl (by simp) (by omega) (by omega) rfl rfl rfl
        · intro a W hfr hG hdep; exact N_move rfl (by simp) (hfr 2 (by decide +kernel))
        · intro a W hfr hG hdep; exact N_move rfl (by simp) (hfr 7 (by decide +kernel))
        · intro a W hfr hG hdep; exact N_write (t := 3) rfl (by simp) (by decide) rfl (hdep 3 (by decide +kernel)) (H3.out.2.1.up hG) (by omega)
        · intro a W hfr hG hdep; exact N_extT rfl (by simp) (hdep 1 (by decide +kernel)) (hdep 2 (by decide +kernel)) (hdep 4 (by decide +kernel)) (by simp) (by omega)
        · intro a W hfr hG hdep; exact N_row1 rfl (by simp) (hdep 5 (by decide +kernel))
        · intro a W hfr hG hdep; exact N_with rfl (by simp) (hdep 0 (by decide +kernel)) (hdep 6 (by decide +kernel)) (by simp only [List.flatten_cons, List.flatten_nil, List.append_nil]; omega) (H3.out.2.2.1.up hG)
        · intro a W hfr hG hdep; exact N_parse (B := wr.heap.size) rfl (by simp) (hdep 7 (by decide +kernel))
        · intro a W hfr hG hdep; exact N_move rfl (by simp) (hdep 8 (by decide +kernel))
        · intro a W hfr hG hdep; exact N_ext0 (B := wr.heap.size) rfl (by simp) (hdep 9 (by decide +kernel))
        · intro a W hfr hG hdep; exact N_ext1 (B := wr.heap.size) rfl (by simp) (hdep 9 (by decide +kernel))
        · intro a W hfr hG hdep; exact N_newc (B := wr.heap.size) (b := Ref.wr (Ref.seq (k.els.map (·.2.2) ++ X.tail [X.ext [85, 29, 15] q (Der.write 3 (U.laid u j))])) (k.sig.take 100)) rfl (by simp) hG.size
        · intro a W hfr hG hdep; exact N_store (p := 12) (fun _ _ => trivial) rfl rfl hG.size (hdep 12 (by decide +kernel)) rfl (hdep 10 (by decide +kernel))
        · intro a W hfr hG hdep; exact N_assign rfl (by simp) (hdep 11 (by decide +kernel))
      case hdone =>
        intro a W hdf hsz hfr hG hJ hV
        have hV : JV (wr.heap.size) (Ref.wr (Ref.seq (k.els.map (·.2.2) ++ X.tail [X.ext [85, 29, 15] q (Der.write 3 (U.laid u j))])) (k.sig.take 100)) (a.eval (.tmp 10)) W := hV
        obtain ⟨gv, Cv, hgv, hgB, hBv, hPv⟩ := hV
        have e := arr_eta a 106 hsz hdf
        rw [show (List.range 106).map (fun i => a.eval (.tmp i)) = a.eval (.tmp 0) :: a.eval (.tmp 1) :: a.eval (.tmp 2) :: a.eval (.tmp 3) :: a.eval (.tmp 4) :: a.eval (.tmp 5) :: a.eval (.tmp 6) :: a.eval (.tmp 7) :: a.eval (.tmp 8) :: a.eval (.tmp 9) :: a.eval (.tmp 10) :: a.eval (.tmp 11) :: a.eval (.tmp 12) :: a.eval (.tmp 13) :: a.eval (.tmp 14) :: a.eval (.tmp 15) :: a.eval (.tmp 16) :: a.eval (.tmp 17) :: a.eval (.tmp 18) :: a.eval (.tmp 19) :: a.eval (.tmp 20) :: a.eval (.tmp 21) :: a.eval (.tmp 22) :: a.eval (.tmp 23) :: a.eval (.tmp 24) :: a.eval (.tmp 25) :: a.eval (.tmp 26) :: a.eval (.tmp 27) :: a.eval (.tmp 28) :: a.eval (.tmp 29) :: a.eval (.tmp 30) :: a.eval (.tmp 31) :: a.eval (.tmp 32) :: a.eval (.tmp 33) :: a.eval (.tmp 34) :: a.eval (.tmp 35) :: a.eval (.tmp 36) :: a.eval (.tmp 37) :: a.eval (.tmp 38) :: a.eval (.tmp 39) :: a.eval (.tmp 40) :: a.eval (.tmp 41) :: a.eval (.tmp 42) :: a.eval (.tmp 43) :: a.eval (.tmp 44) :: a.eval (.tmp 45) :: a.eval (.tmp 46) :: a.eval (.tmp 47) :: a.eval (.tmp 48) :: a.eval (.tmp 49) :: a.eval (.tmp 50) :: a.eval (.tmp 51) :: a.eval (.tmp 52) :: a.eval (.tmp 53) :: a.eval (.tmp 54) :: a.eval (.tmp 55) :: a.eval (.tmp 56) :: a.eval (.tmp 57) :: a.eval (.tmp 58) :: a.eval (.tmp 59) :: a.eval (.tmp 60) :: a.eval (.tmp 61) :: a.eval (.tmp 62) :: a.eval (.tmp 63) :: a.eval (.tmp 64) :: a.eval (.tmp 65) :: a.eval (.tmp 66) :: a.eval (.tmp 67) :: a.eval (.tmp 68) :: a.eval (.tmp 69) :: a.eval (.tmp 70) :: a.eval (.tmp 71) :: a.eval (.tmp 72) :: a.eval (.tmp 73) :: a.eval (.tmp 74) :: a.eval (.tmp 75) :: a.eval (.tmp 76) :: a.eval (.tmp 77) :: a.eval (.tmp 78) :: a.eval (.tmp 79) :: a.eval (.tmp 80) :: a.eval (.tmp 81) :: a.eval (.tmp 82) :: a.eval (.tmp 83) :: a.eval (.tmp 84) :: a.eval (.tmp 85) :: a.eval (.tmp 86) :: a.eval (.tmp 87) :: a.eval (.tmp 88) :: a.eval (.tmp 89) :: a.eval (.tmp 90) :: a.eval (.tmp 91) :: a.eval (.tmp 92) :: a.eval (.tmp 93) :: a.eval (.tmp 94) :: a.eval (.tmp 95) :: a.eval (.tmp 96) :: a.eval (.tmp 97) :: a.eval (.tmp 98) :: a.eval (.tmp 99) :: a.eval (.tmp 100) :: a.eval (.tmp 101) :: a.eval (.tmp 102) :: a.eval (.tmp 103) :: a.eval (.tmp 104) :: a.eval (.tmp 105) :: [] from rfl] at e
        rw [hgv] at e
        rw [show a.eval (.tmp 11) = .int .i64 ((Cert.parse (Ref.wr (Ref.seq (k.els.map (·.2.2) ++ X.tail [X.ext [85, 29, 15] q (Der.write 3 (U.laid u j))])) (k.sig.take 100))).err : Int) from hJ 14 (by decide)] at e
        rw [show a.eval (.tmp 1) = .slice A3 j c3 from hfr 1 (by decide +kernel)] at e
        rw [show a.eval (.tmp 2) = .bool q from hfr 2 (by decide +kernel)] at e
        rw [show a.eval (.tmp 3) = .pointer (some ⟨w.heap.size, 0, none⟩) from hfr 3 (by decide +kernel)] at e
        rw [show a.eval (.tmp 6) = .bool false from hfr 6 (by decide +kernel)] at e
        rw [show a.eval (.tmp 7) = .slice (some ⟨w0.heap.size, 0, none⟩) (1 + r) (1 + r) from hfr 7 (by decide +kernel)] at e
        rw [show a.eval (.tmp 8) = .int .i64 (U.sum bits j : Nat) from hfr 8 (by decide +kernel)] at e
        clear hgv
        generalize a.eval (.tmp 0) = u0 at e
        generalize a.eval (.tmp 4) = u4 at e
        generalize a.eval (.tmp 5) = u5 at e
        generalize a.eval (.tmp 9) = u9 at e
        generalize a.eval (.tmp 12) = u12 at e
        generalize a.eval (.tmp 13) = u13 at e
        generalize a.eval (.tmp 14) = u14 at e
        generalize a.eval (.tmp 15) = u15 at e
        generalize a.eval (.tmp 16) = u16 at e
        generalize a.eval (.tmp 17) = u17 at e
        generalize a.eval (.tmp 18) = u18 at e
        generalize a.eval (.tmp 19) = u19 at e
        generalize a.eval (.tmp 20) = u20 at e
        generalize a.eval (.tmp 21) = u21 at e
        generalize a.eval (.tmp 22) = u22 at e
        generalize a.eval (.tmp 23) = u23 at e
        generalize a.eval (.tmp 24) = u24 at e
        generalize a.eval (.tmp 25) = u25 at e
        generalize a.eval (.tmp 26) = u26 at e
        generalize a.eval (.tmp 27) = u27 at e
        generalize a.eval (.tmp 28) = u28 at e
        generalize a.eval (.tmp 29) = u29 at e
        generalize a.eval (.tmp 30) = u30 at e
        generalize a.eval (.tmp 31) = u31 at e
        generalize a.eval (.tmp 32) = u32 at e
        generalize a.eval (.tmp 33) = u33 at e
        generalize a.eval (.tmp 34) = u34 at e
        generalize a.eval (.tmp 35) = u35 at e
        generalize a.eval (.tmp 36) = u36 at e
        generalize a.eval (.tmp 37) = u37 at e
        generalize a.eval (.tmp 38) = u38 at e
        generalize a.eval (.tmp 39) = u39 at e
        generalize a.eval (.tmp 40) = u40 at e
        generalize a.eval (.tmp 41) = u41 at e
        generalize a.eval (.tmp 42) = u42 at e
        generalize a.eval (.tmp 43) = u43 at e
        generalize a.eval (.tmp 44) = u44 at e
        generalize a.eval (.tmp 45) = u45 at e
        generalize a.eval (.tmp 46) = u46 at e
        generalize a.eval (.tmp 47) = u47 at e
        generalize a.eval (.tmp 48) = u48 at e
        generalize a.eval (.tmp 49) = u49 at e
        generalize a.eval (.tmp 50) = u50 at e
        generalize a.eval (.tmp 51) = u51 at e
        generalize a.eval (.tmp 52) = u52 at e
        generalize a.eval (.tmp 53) = u53 at e
        generalize a.eval (.tmp 54) = u54 at e
        generalize a.eval (.tmp 55) = u55 at e
        generalize a.eval (.tmp 56) = u56 at e
        generalize a.eval (.tmp 57) = u57 at e
        generalize a.eval (.tmp 58) = u58 at e
        generalize a.eval (.tmp 59) = u59 at e
        generalize a.eval (.tmp 60) = u60 at e
        generalize a.eval (.tmp 61) = u61 at e
        generalize a.eval (.tmp 62) = u62 at e
        generalize a.eval (.tmp 63) = u63 at e
        generalize a.eval (.tmp 64) = u64 at e
        generalize a.eval (.tmp 65) = u65 at e
        generalize a.eval (.tmp 66) = u66 at e
        generalize a.eval (.tmp 67) = u67 at e
        generalize a.eval (.tmp 68) = u68 at e
        generalize a.eval (.tmp 69) = u69 at e
        generalize a.eval (.tmp 70) = u70 at e
        generalize a.eval (.tmp 71) = u71 at e
        generalize a.eval (.tmp 72) = u72 at e
        generalize a.eval (.tmp 73) = u73 at e
        generalize a.eval (.tmp 74) = u74 at e
        generalize a.eval (.tmp 75) = u75 at e
        generalize a.eval (.tmp 76) = u76 at e
        generalize a.eval (.tmp 77) = u77 at e
        generalize a.eval (.tmp 78) = u78 at e
        generalize a.eval (.tmp 79) = u79 at e
        generalize a.eval (.tmp 80) = u80 at e
        generalize a.eval (.tmp 81) = u81 at e
        generalize a.eval (.tmp 82) = u82 at e
        generalize a.eval (.tmp 83) = u83 at e
        generalize a.eval (.tmp 84) = u84 at e
        generalize a.eval (.tmp 85) = u85 at e
        generalize a.eval (.tmp 86) = u86 at e
        generalize a.eval (.tmp 87) = u87 at e
        generalize a.eval (.tmp 88) = u88 at e
        generalize a.eval (.tmp 89) = u89 at e
        generalize a.eval (.tmp 90) = u90 at e
        generalize a.eval (.tmp 91) = u91 at e
        generalize a.eval (.tmp 92) = u92 at e
        generalize a.eval (.tmp 93) = u93 at e
        generalize a.eval (.tmp 94) = u94 at e
        generalize a.eval (.tmp 95) = u95 at e
        generalize a.eval (.tmp 96) = u96 at e
        generalize a.eval (.tmp 97) = u97 at e
        generalize a.eval (.tmp 98) = u98 at e
        generalize a.eval (.tmp 99) = u99 at e
        generalize a.eval (.tmp 100) = u100 at e
        generalize a.eval (.tmp 101) = u101 at e
        generalize a.eval (.tmp 102) = u102 at e
        generalize a.eval (.tmp 103) = u103 at e
        generalize a.eval (.tmp 104) = u104 at e
        generalize a.eval (.tmp 105) = u105 at e
        subst e
        clear hfr hJ hsz hdf
        have hbW := H3.out.2.2.2.2.trans (hG.mono H3.out.2.2.2.2.size)
        have hfl : (U.told bits = none ∧ ((Cert.parse (Ref.wr (Ref.seq (k.els.map (·.2.2) ++ X.tail [X.ext [85, 29, 15] q (Der.write 3 (U.laid u j))])) (k.sig.take 100))).err : Int) = 9) ∨ (∃ z, U.told bits = some z ∧ ((Cert.parse (Ref.wr (Ref.seq (k.els.map (·.2.2) ++ X.tail [X.ext [85, 29, 15] q (Der.write 3 (U.laid u j))])) (k.sig.take 100))).err : Int) = 0 ∧ Cv.fl.usage = (z : Int)) := by
          have hpp := usages_parse k H3.out.2.2.1.path q bits (by have := H3.out.2.2.2.1.len; omega)
          rw [H3.out.2.2.2.1.len, HL.out.2.2.2] at hpp
          rcases hpp with ⟨h1, h2⟩ | ⟨z, h1, s, h2, h3⟩
          · exact .inl ⟨h1, by rw [h2]; rfl⟩
          · rw [h2] at hPv
            obtain ⟨_, _, _, hf, _⟩ := hPv.out
            exact .inr ⟨z, h1, by rw [h2]; rfl, by rw [hf]; exact h3⟩
        clear hPv
        generalize ((Cert.parse (Ref.wr (Ref.seq (k.els.map (·.2.2) ++ X.tail [X.ext [85, 29, 15] q (Der.write 3 (U.laid u j))])) (k.sig.take 100))).err : Int) = er at hfl ⊢
        have kus : W.cell? ⟨gv, 22, none⟩ = some (.int .i64 Cv.fl.usage) := hBv.at_ 22
        have hlen := H3.out.2.2.2.1.len
        have HW2 := Lib.hid (And.intro hbW (H3.out.2.2.2.1.up hG))
        clear hbW hBv hgB hG hll hwl hxl H3 HW HB hr0
        by_cases h1 : j < 1
        · have h1' : (j : Int) < 1 := by omega
          rw [told_few hlen h1] at hfl
          obtain ⟨_, rfl⟩ : U.told bits = U.told bits ∧ er = 9 := by
            rcases hfl with ⟨_, h⟩ | ⟨z, h, _⟩
            · exact ⟨rfl, h⟩
            · cases h
          clear hfl
          go_wp2_with fail
          refine (works12_any _).mono ?_
          rintro e wz ⟨rfl, hbz⟩
          go_wp2
          go_ret
          exact ⟨rfl, HW2.out.1.trans (hbz.mono HW2.out.1.size)⟩
        by_cases h9 : 9 < j
        · have h1' : ¬ (j : Int) < 1 := by omega
          have h9' : (9 : Int) < j := by omega
          rw [told_many hlen h9] at hfl
          obtain ⟨_, rfl⟩ : U.told bits = U.told bits ∧ er = 9 := by
            rcases hfl with ⟨_, h⟩ | ⟨z, h, _⟩
            · exact ⟨rfl, h⟩
            · cases h
          clear hfl
          go_wp2_with fail
          refine (works12_any _).mono ?_
          rintro e wz ⟨rfl, hbz⟩
          go_wp2
          go_ret
          exact ⟨rfl, HW2.out.1.trans (hbz.mono HW2.out.1.size)⟩
        obtain ⟨m, rfl⟩ : ∃ m, j = m + 1 := ⟨j - 1, by omega⟩
        obtain ⟨bq, oq, hAq, hbq, hcq⟩ := HW2.out.2.spot (by omega)
        subst hAq
        obtain ⟨x, hx⟩ : ∃ x, bits[m]? = some x := ⟨bits[m]'(by omega), List.getElem?_eq_getElem _⟩
        have kx := hcq m x hx
        have h1' : ¬ ((m : Int) + 1) < 1 := by omega
        have h9' : ¬ (9 : Int) < (m : Int) + 1 := by omega
        rw [told_last hlen (by omega) hx] at hfl
        cases x
        · simp only [Bool.false_eq_true, if_false] at hfl
          obtain ⟨_, rfl⟩ : U.told bits = U.told bits ∧ er = 9 := by
            rcases hfl with ⟨_, h⟩ | ⟨z, h, _⟩
            · exact ⟨rfl, h⟩
            · cases h
          clear hfl hcq hx hlen
          go_wp2_with fail
          refine (works12_any _).mono ?_
          rintro e wz ⟨rfl, hbz⟩
          go_wp2
          go_ret
          exact ⟨rfl, HW2.out.1.trans (hbz.mono HW2.out.1.size)⟩
        · simp only [if_true] at hfl
          obtain ⟨hus, rfl⟩ : Cv.fl.usage = ((U.sum bits (m + 1) : Nat) : Int) ∧ er = 0 := by
            rcases hfl with ⟨h, _⟩ | ⟨z, h, h0, h2⟩
            · cases h
            · injection h with h
              exact ⟨by rw [h2, h], h0⟩
          rw [hus] at kus
          clear hfl hcq hx hlen hus
          go_wp2_with fail
          refine (works12_any _).mono ?_
          rintro e wz ⟨rfl, hbz⟩
          go_wp2
          go_ret
          exact ⟨rfl, HW2.out.1.trans (hbz.mono HW2.out.1.size)⟩
theorem certUsages_walk (w : World) (k : Kase) (A0 A1 A2 : Option Addr) (n0 c0 n1 c1 n2 c2 : Nat) (hk : k.come w A0 A1 A2 n0 c0 n1 c1 n2 c2) (A3 : Option Addr) (n3 c3 : Nat) (bits : List Bool) (h3 : RdQ w w.heap.size A3 n3 c3 bits) (q : Bool) :
    Calls Try.prog 7 #[k.val (.slice A0 n0 c0) (.slice A1 n1 c1) (.slice A2 n2 c2), .slice A3 n3 c3, .bool q] w fun e w' => e = .returned (.bool true) ∧ Below w.heap.size w w' := by
  by_cases hn : (40 : Int) < n3
  · exact usages_large _ A3 n3 c3 q w hn k _ _ _ rfl
  · exact usages_main k A0 A1 A2 n0 c0 n1 c1 n2 c2 A3 n3 c3 bits q w hk h3 hn
end Go.Proofs.Ytmnekhliblkibaa
