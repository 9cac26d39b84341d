/- SHA-256 of the program: how a state begins. -/
import Derived.Test.YtmpladnglfiejaaGreatDoorSh4
import Derived.Test.YtmpladnglfiejaaGreatDoorShR
namespace Go.Proofs.YtmpladnglfiejaaGreatDoor
open Go.RowKit
set_option maxRecDepth 100000
set_option linter.unusedVariables false
set_option linter.unusedSimpArgs false
theorem load_u64r {w : World} {ad : Addr} {v : Value} (h : w.cell? ad = some v) : (loadVar 64 ad).run Tryz.prog w = .ok v w := by simp [go_sem, h]
theorem load_u32r {w : World} {ad : Addr} {v : Value} (h : w.cell? ad = some v) : (loadVar 26 ad).run Tryz.prog w = .ok v w := by simp [go_sem, h]
theorem store_u32 {w : World} {ad : Addr} {v x : Value} (h : w.cell? ad = some v) (hf : w.frozen? ad = false) (z : Int) (hx : x = .int .u32 z) : (storeVar 26 ad x).run Tryz.prog w = .ok () (w.setCell ad x) := by
  subst hx
  simp [go_sem, h, hf]
theorem index_arr64 {A : Array Value} {i p : Nat} (h : A[i]? = some (.int .u64 (p : Int))) (hi : i < 64) (W : World) : (Instr.index 105 (.agg A) (.int .i64 (i : Int))).run Tryz.prog W = .ok (.int .u64 (p : Int)) W := by
  have h1 : (i : Int) < 64 := by omega
  have hu := run_underlying Tryz.underlying105 W
  have hs : (sizeOf 64).run Tryz.prog W = .ok 1 W := by simp [go_sem]
  have ha : (isAgg 64).run Tryz.prog W = .ok false W := by simp [isAgg, run_underlying Tryz.underlying64]
  simp [Instr.index, asIntOf, hu, h1, part, hs, ha, h]
  intro h2
  omega
set_option maxHeartbeats 4000000 in
theorem make_any (g : Nat) (w : World) (h : Bst w g false (List.replicate 64 0) (List.replicate 8 0) (.slice none 0 0) 0) :
    Calls Tryz.prog 33 #[.pointer (some ⟨g, 0, none⟩)] w fun e w' => e = .returned (.tuple #[]) ∧ w.grownBy w' (some g) ∧ Bst w' g true Sha.ktab Sha.htab (.slice none 0 0) 0 := by
  have hgl := h.lt
  have m0 : w.cell? ⟨g, 0, none⟩ = some (.bool false) := h.cell 0
  have H := Lib.hid h
  clear h
  go_enter Tryz.func33, Tryz.ntmps33
  go_wp2_with fail
  refine (primes_any w).mono ?_
  rintro e w1 ⟨rfl, hb1⟩
  have h1 : Bst w1 g false (List.replicate 64 0) (List.replicate 8 0) (.slice none 0 0) 0 := H.out.below hb1 hgl
  have hB1 : Blk (w1.alloc (.cells #[.int .u64 0, .int .u64 0, .int .u64 0, .int .u64 0, .int .u64 0, .int .u64 0, .int .u64 0, .int .u64 0, .int .u64 0, .int .u64 0, .int .u64 0, .int .u64 0, .int .u64 0, .int .u64 0, .int .u64 0, .int .u64 0, .int .u64 0, .int .u64 0, .int .u64 0, .int .u64 0, .int .u64 0, .int .u64 0, .int .u64 0, .int .u64 0, .int .u64 0, .int .u64 0, .int .u64 0, .int .u64 0, .int .u64 0, .int .u64 0, .int .u64 0, .int .u64 0, .int .u64 0, .int .u64 0, .int .u64 0, .int .u64 0, .int .u64 0, .int .u64 0, .int .u64 0, .int .u64 0, .int .u64 0, .int .u64 0, .int .u64 0, .int .u64 0, .int .u64 0, .int .u64 0, .int .u64 0, .int .u64 0, .int .u64 0, .int .u64 0, .int .u64 0, .int .u64 0, .int .u64 0, .int .u64 0, .int .u64 0, .int .u64 0, .int .u64 0, .int .u64 0, .int .u64 0, .int .u64 0, .int .u64 0, .int .u64 0, .int .u64 0, .int .u64 0] 105)) w1.heap.size 105 (padA []) := Blk.new w1 _ _
  have hs1 := hb1.size
  have hl64 : Sha.P64.length ≤ 64 := Nat.le_of_eq Sha.P64_len
  have hst1 := store_arr64 (l' := Sha.P64) (by simp) hl64 hB1
  have hS := setRow_blk (ds := padA Sha.P64) hB1
  obtain ⟨w2, hw2⟩ : ∃ x, (w1.alloc (.cells #[.int .u64 0, .int .u64 0, .int .u64 0, .int .u64 0, .int .u64 0, .int .u64 0, .int .u64 0, .int .u64 0, .int .u64 0, .int .u64 0, .int .u64 0, .int .u64 0, .int .u64 0, .int .u64 0, .int .u64 0, .int .u64 0, .int .u64 0, .int .u64 0, .int .u64 0, .int .u64 0, .int .u64 0, .int .u64 0, .int .u64 0, .int .u64 0, .int .u64 0, .int .u64 0, .int .u64 0, .int .u64 0, .int .u64 0, .int .u64 0, .int .u64 0, .int .u64 0, .int .u64 0, .int .u64 0, .int .u64 0, .int .u64 0, .int .u64 0, .int .u64 0, .int .u64 0, .int .u64 0, .int .u64 0, .int .u64 0, .int .u64 0, .int .u64 0, .int .u64 0, .int .u64 0, .int .u64 0, .int .u64 0, .int .u64 0, .int .u64 0, .int .u64 0, .int .u64 0, .int .u64 0, .int .u64 0, .int .u64 0, .int .u64 0, .int .u64 0, .int .u64 0, .int .u64 0, .int .u64 0, .int .u64 0, .int .u64 0, .int .u64 0, .int .u64 0] 105)).setRow w1.heap.size (padA Sha.P64) = x := ⟨_, rfl⟩
  rw [hw2] at hst1 hS
  have hg2 : w.grownBy w2 (some g) := by
    have k1 : Below w.heap.size w (w1.alloc (.cells #[.int .u64 0, .int .u64 0, .int .u64 0, .int .u64 0, .int .u64 0, .int .u64 0, .int .u64 0, .int .u64 0, .int .u64 0, .int .u64 0, .int .u64 0, .int .u64 0, .int .u64 0, .int .u64 0, .int .u64 0, .int .u64 0, .int .u64 0, .int .u64 0, .int .u64 0, .int .u64 0, .int .u64 0, .int .u64 0, .int .u64 0, .int .u64 0, .int .u64 0, .int .u64 0, .int .u64 0, .int .u64 0, .int .u64 0, .int .u64 0, .int .u64 0, .int .u64 0, .int .u64 0, .int .u64 0, .int .u64 0, .int .u64 0, .int .u64 0, .int .u64 0, .int .u64 0, .int .u64 0, .int .u64 0, .int .u64 0, .int .u64 0, .int .u64 0, .int .u64 0, .int .u64 0, .int .u64 0, .int .u64 0, .int .u64 0, .int .u64 0, .int .u64 0, .int .u64 0, .int .u64 0, .int .u64 0, .int .u64 0, .int .u64 0, .int .u64 0, .int .u64 0, .int .u64 0, .int .u64 0, .int .u64 0, .int .u64 0, .int .u64 0, .int .u64 0] 105)) := hb1.alloc hs1 _
    have k2 : Below w.heap.size w w2 := k1.grown hS.2 k1.size (fun j e => by injection e with e; omega)
    exact grown_below (World.grownBy.refl w (some g)) k2
  have h2 : Bst w2 g false (List.replicate 64 0) (List.replicate 8 0) (.slice none 0 0) 0 := (h1.alloc _).grown hS.2 (fun e => by injection e with e; omega)
  have H2 := Lib.hid (And.intro h2 (And.intro hS.1 (And.intro hg2 (And.intro hst1 hl64))))
  clear h1 hB1 hst1 hS hg2 h2 hb1 hl64
  rw [show Sha.prun 310 = Sha.P64 from rfl]
  go_upto_region 2 with (first
    | ((with_reducible refine at_store_t 105 ?_); refine wpList_store_row rfl 105 _ _ rfl ⟨w1.heap.size, 0, none⟩ (.agg (padA Sha.P64)) w2 rfl rfl H2.out.2.2.2.1 ?_)
    | fail)
  obtain ⟨lb, hlb⟩ : ∃ x, w1.heap.size = x := ⟨_, rfl⟩
  have hlg : g ≠ lb := by omega
  rw [hlb] at H2 ⊢
  clear hlb hs1
  go_wp2_with (first
    | ((with_reducible refine at_load_t 105 ?_); refine wpList_load_row rfl 105 _ rfl ⟨lb, 0, none⟩ (.agg (padA Sha.P64)) rfl (load_arr64 H2.out.2.2.2.2 H2.out.2.1) ?_)
    | fail)
  go_loopw [12, 3, 4] (fun ix _ _ wr => ∃ i : Nat, i ≤ 64 ∧ ix = .int .i64 (i : Int) ∧ Bst wr g false (Sha.padL 64 (Sha.ktab.take i) 0) (List.replicate 8 0) (.slice none 0 0) 0 ∧ Blk wr lb 105 (padA Sha.P64) ∧ w.grownBy wr (some g)) (fun ix _ _ _ => 64 - (intOf ix).toNat)
  case atStart => exact ⟨0, by omega, rfl, H2.out.1, H2.out.2.1, H2.out.2.2.1⟩
  case round =>
    obtain ⟨i, hi, rfl, hB, hL, hg⟩ := hrel
    by_cases hlt : i < 64
    · have hlt' : (i : Int) < 64 := by omega
      obtain ⟨p, hp⟩ : ∃ p, Sha.P64[i]? = some p := ⟨_, List.getElem?_eq_getElem (by rw [Sha.P64_len]; exact hlt)⟩
      have hp1000 := Sha.P64_small p (List.mem_of_getElem? hp)
      have hpa : (padA Sha.P64)[i]? = some (.int .u64 (p : Int)) := padA_get Sha.P64 i p hp
      obtain ⟨A, hA⟩ : ∃ A, padA Sha.P64 = A := ⟨_, rfl⟩
      have hAs : A.size = 64 := by rw [← hA]; exact padA_size _ (Nat.le_of_eq Sha.P64_len)
      have hAs2 : i < A.size := by omega
      have HL := Lib.hid (And.intro hB (And.intro hL (And.intro hg hp)))
      rw [hA] at hpa ⊢
      clear hB hL hg hp
      have hix := fun W => index_arr64 hpa hlt W
      obtain ⟨KK, hKK⟩ : ∃ K, Sha.padL 64 (Sha.ktab.take i) 0 = K := ⟨_, rfl⟩
      have hti : (Sha.ktab.take i).length = i := by rw [List.length_take, Sha.ktab_len]; omega
      have hkl : KK.length = 64 := by rw [← hKK]; exact Sha.padL_len 0 (by omega)
      have hk0 : KK[i]? = some 0 := by rw [← hKK]; have := Sha.padL_at (n := 64) (l := Sha.ktab.take i) (0 : Int) (by omega); rwa [hti] at this
      have hkn : KK.set i (Sha.rootN (Sha.cuP p)) = Sha.padL 64 (Sha.ktab.take (i + 1)) 0 := by
        rw [← hKK]
        refine Sha.padL_take 0 ?_ (Nat.le_of_eq Sha.ktab_len)
        unfold Sha.ktab
        rw [List.getElem?_map, HL.out.2.2.2]
        rfl
      have hG5 : Bst wr g false KK (List.replicate 8 0) (.slice none 0 0) 0 ∧ Blk wr lb 105 (padA Sha.P64) ∧ w.grownBy wr (some g) := by rw [← hKK]; exact ⟨HL.out.1, HL.out.2.1, HL.out.2.2.1⟩
      have HK := Lib.hid (And.intro hKK (And.intro hkl (And.intro hk0 (And.intro hkn hG5))))
      have iw0 : (0 : Int) ≤ i := by omega
      have iw1 : (i : Int) < 64 := by omega
      clear hKK hti hkl hk0 hkn hG5
      go_upto_region 5 with fail
      clear hix hpa
      refine wp_region_reach 7 (fun zi v _ => v = (fun zi => ([.pointer (some ⟨g, 0, none⟩), .int .i64 (i : Int), .int .u64 (p : Int), u32v (Sha.rootN (Sha.cuP p)), .pointer (some ⟨g, 0, none⟩), .pointer (some ⟨g, 1, none⟩), .pointer (some ⟨g, 1 + i, none⟩)] : List Value).getD zi undef) zi) (fun W => Bst W g false KK (List.replicate 8 0) (.slice none 0 0) 0 ∧ Blk W lb 105 (padA Sha.P64) ∧ w.grownBy W (some g)) (fun x y => Below x.heap.size x y) rfl (fun _ _ _ _ _ h => h) (fun W W' hW hR => ⟨hW.1.below hR hW.1.lt, hW.2.1.below hR hW.2.1.lt, grown_below hW.2.2 hR⟩) (by show dstsOk _ 40 = true; decide +kernel) (by decide +kernel) (by decide +kernel) rfl (by decide +kernel) (⟨HK.out.2.2.2.2.1.drew, HK.out.2.2.2.2.2.1.drew, grown_below HK.out.2.2.2.2.2.2 (Below.refl _ _).drew⟩) ⟨?_, ?_, ?_, ?_, ?_, ?_, ?_, trivial⟩ ?_
      · intro a' W hfr hG hdep; refine J_of (by simp) (fun _ => rfl) ?_; have d1 : a'.eval (.tmp 0) = .pointer (some ⟨g, 0, none⟩) := hfr 0 (by decide +kernel); exact F_move rfl d1 trivial (Below.refl _ _)
      · intro a' W hfr hG hdep; refine J_of (by simp) (fun _ => rfl) ?_; have d1 : a'.eval (.tmp 3) = .int .i64 (i : Int) := hfr 3 (by decide +kernel); exact F_move rfl d1 trivial (Below.refl _ _)
      · intro a' W hfr hG hdep; refine J_of (by simp) (fun _ => rfl) ?_; have d1 : a'.eval (.tmp 4) = .int .u64 (p : Int) := hfr 4 (by decide +kernel); exact F_move rfl d1 trivial (Below.refl _ _)
      · intro a' W hfr hG hdep; refine J_of (by simp) (fun _ => rfl) ?_; have d1 : a'.eval (.tmp 18) = .int .u64 (p : Int) := hdep 2 (by decide +kernel); refine F_call rfl Tryz.func57 rfl (by decide) (args := #[.int .u64 (p : Int)]) (by simp only [List.map_toArray, List.map_cons, List.map_nil, d1] <;> rfl) (cube_any p W hp1000) ?_; rintro e w' ⟨rfl, hb⟩; exact ⟨rfl, trivial, hb⟩
      · intro a' W hfr hG hdep; refine J_of (by simp) (fun _ => rfl) ?_; have d1 : a'.eval (.tmp 16) = .pointer (some ⟨g, 0, none⟩) := hdep 0 (by decide +kernel); refine F_val (v := .pointer (some ⟨g, 0, none⟩)) ?_ trivial (Below.refl _ _); simp only [execOp, d1]; first | (simp [go_sem, Act.eval, u32v]; done) | (simp [go_sem, Act.eval, u32v]; rw [IntKind.wrap_i64]; omega) | (simp [go_sem, Act.eval, u32v]; omega)
      · intro a' W hfr hG hdep; refine J_of (by simp) (fun _ => rfl) ?_; have d1 : a'.eval (.tmp 20) = .pointer (some ⟨g, 0, none⟩) := hdep 4 (by decide +kernel); refine F_val (v := .pointer (some ⟨g, 1, none⟩)) ?_ trivial (Below.refl _ _); simp only [execOp, d1]; first | (simp [go_sem, Act.eval, u32v]; done) | (simp [go_sem, Act.eval, u32v]; rw [IntKind.wrap_i64]; omega) | (simp [go_sem, Act.eval, u32v]; omega)
      · intro a' W hfr hG hdep; refine J_of (by simp) (fun _ => rfl) ?_; have d1 : a'.eval (.tmp 21) = .pointer (some ⟨g, 1, none⟩) := hdep 5 (by decide +kernel); have d2 : a'.eval (.tmp 17) = .int .i64 (i : Int) := hdep 1 (by decide +kernel); refine F_val (v := .pointer (some ⟨g, 1 + i, none⟩)) ?_ trivial (Below.refl _ _); simp only [execOp, d1, d2]; first | (simp [go_sem, Act.eval, iw0, iw1]; done) | (simp [go_sem, Act.eval]; omega)
      intro o ho a' W hdd hsz hfr hG hJ
      have e1 : o.op = .store 26 (.tmp 22) (.tmp 19) ∧ o.dst = none := by cases ho; exact ⟨rfl, rfl⟩
      clear ho
      have hp1 : a'.eval (.tmp 22) = .pointer (some ⟨g, 1 + i, none⟩) := hJ 6 (by decide)
      have hv1 : a'.eval (.tmp 19) = u32v (Sha.rootN (Sha.cuP p)) := hJ 3 (by decide)
      refine wp_store_row 26 _ _ e1.1 _ _ _ hp1 hv1 (store_u32 (show W.cell? ⟨g, 1 + i, none⟩ = some (u32v 0) from (hG.1.cell (1 + i)).trans (by rw [List.getElem?_toArray]; exact stL_k HK.out.2.1 HK.out.2.2.1)) (hG.1.frozen (1 + i)) _ rfl) ?_
      rw [e1.2]
      have HG := Lib.hid hG
      clear hp1 hv1 e1 hG
      have e := act_of_slots (fun zi => ([.pointer (some ⟨g, 0, none⟩), .int .i64 (i : Int), .int .u64 (p : Int), u32v (Sha.rootN (Sha.cuP p)), .pointer (some ⟨g, 0, none⟩), .pointer (some ⟨g, 1, none⟩), .pointer (some ⟨g, 1 + i, none⟩)] : List Value).getD zi undef) (by show dstsOk _ 40 = true; decide +kernel) hdd hsz hfr (fun zj hj => by
        by_cases h : zj < 7
        · exact hJ zj h
        · obtain rfl : zj = 7 := by have hj' : zj < 8 := hj; omega
          rfl)
      clear hJ hfr hdd hsz
      have hrg : List.range 8 = [0, 1, 2, 3, 4, 5, 6, 7] := rfl
      simp only [layAll, List.map_cons, List.map_nil, List.size_toArray, List.length_cons, List.length_nil, Nat.reduceAdd, hrg, List.zip_cons_cons, List.zip_nil_left, List.foldl_cons, List.foldl_nil, List.getD_cons_zero, List.getD_cons_succ, List.getD_nil, Act.put, List.setIfInBounds_toArray, List.set_cons_zero, List.set_cons_succ] at e
      subst e
      clear hrg
      apply_assumption
      have hB6 := (HG.out.1.set_ (1 + i) (u32v (Sha.rootN (Sha.cuP p))))
      rw [List.setIfInBounds_toArray, stL_setK HK.out.2.1 hlt, HK.out.2.2.2.1] at hB6
      have hL6 := HG.out.2.1.far (p := ⟨g, 1 + i, none⟩) (fun e => hlg e.symm) (u32v (Sha.rootN (Sha.cuP p)))
      have hg6 : w.grownBy (W.setCell ⟨g, 1 + i, none⟩ (u32v (Sha.rootN (Sha.cuP p)))) (some g) := grown_on HG.out.2.2 (grownBy_set W ⟨g, 1 + i, none⟩ _) (fun j e => .inr (by injection e with e; exact e.symm))
      have H6 := Lib.hid (And.intro hB6 (And.intro hL6 hg6))
      clear hB6 hL6 hg6
      go_wp2_with fail
      go_roundw
      case rel => exact ⟨i + 1, by omega, by go_num, H6.out.1, by rw [← hA]; exact H6.out.2.1, H6.out.2.2⟩
      case measure => simp [intOf]; omega
    · have hge : ¬ (i : Int) < 64 := by omega
      obtain rfl : i = 64 := by omega
      have hkt : Sha.padL 64 (Sha.ktab.take 64) 0 = Sha.ktab := by
        rw [List.take_of_length_le (Nat.le_of_eq Sha.ktab_len)]
        exact Sha.padL_full 0 Sha.ktab_len
      rw [hkt] at hB
      have HM := Lib.hid (And.intro hB (And.intro hL hg))
      clear hB hL hg hkt
      go_wp2_with fail
      go_loopw [24, 5] (fun ix _ wr => ∃ i : Nat, i ≤ 8 ∧ ix = .int .i64 (i : Int) ∧ Bst wr g false Sha.ktab (Sha.padL 8 (Sha.htab.take i) 0) (.slice none 0 0) 0 ∧ Blk wr lb 105 (padA Sha.P64) ∧ w.grownBy wr (some g)) (fun ix _ _ => 8 - (intOf ix).toNat)
      case atStart => exact ⟨0, by omega, rfl, HM.out.1, HM.out.2.1, HM.out.2.2⟩
      case round =>
        obtain ⟨i, hi, rfl, hB, hL, hg⟩ := hrel
        by_cases hlt : i < 8
        · have hlt' : (i : Int) < 8 := by omega
          obtain ⟨p, hp⟩ : ∃ p, Sha.P64[i]? = some p := ⟨_, List.getElem?_eq_getElem (by rw [Sha.P64_len]; omega)⟩
          have hp1000 := Sha.P64_small p (List.mem_of_getElem? hp)
          have hpa : (padA Sha.P64)[i]? = some (.int .u64 (p : Int)) := padA_get Sha.P64 i p hp
          obtain ⟨KK, hKK⟩ : ∃ K, Sha.padL 8 (Sha.htab.take i) 0 = K := ⟨_, rfl⟩
          have hti : (Sha.htab.take i).length = i := by rw [List.length_take, Sha.htab_len]; omega
          have hkl : KK.length = 8 := by rw [← hKK]; exact Sha.padL_len 0 (by omega)
          have hk0 : KK[i]? = some 0 := by rw [← hKK]; have := Sha.padL_at (n := 8) (l := Sha.htab.take i) (0 : Int) (by omega); rwa [hti] at this
          have hkn : KK.set i (Sha.rootN (Sha.sqP p)) = Sha.padL 8 (Sha.htab.take (i + 1)) 0 := by
            rw [← hKK]
            refine Sha.padL_take 0 ?_ (Nat.le_of_eq Sha.htab_len)
            unfold Sha.htab
            rw [List.getElem?_map, List.getElem?_take, if_pos hlt, hp]
            rfl
          have hG5 : Bst wr g false Sha.ktab KK (.slice none 0 0) 0 ∧ Blk wr lb 105 (padA Sha.P64) ∧ w.grownBy wr (some g) := by rw [← hKK]; exact ⟨hB, hL, hg⟩
          have HK := Lib.hid (And.intro hKK (And.intro hkl (And.intro hk0 (And.intro hkn (And.intro hG5 hpa)))))
          have iw0 : (0 : Int) ≤ i := by omega
          have iw1 : (i : Int) < 8 := by omega
          have iw2 : (i : Int) < 64 := by omega
          clear hKK hti hkl hk0 hkn hG5 hB hL hg hp hpa
          go_upto_region 10 with fail
          refine wp_region_reach 9 (fun zi v _ => v = (fun zi => ([.pointer (some ⟨g, 0, none⟩), .int .i64 (i : Int), .int .i64 (i : Int), .pointer (some ⟨lb, i, none⟩), .int .u64 (p : Int), u32v (Sha.rootN (Sha.sqP p)), .pointer (some ⟨g, 0, none⟩), .pointer (some ⟨g, 65, none⟩), .pointer (some ⟨g, 65 + i, none⟩)] : List Value).getD zi undef) zi) (fun W => Bst W g false Sha.ktab KK (.slice none 0 0) 0 ∧ Blk W lb 105 (padA Sha.P64) ∧ w.grownBy W (some g)) (fun x y => Below x.heap.size x y) rfl (fun _ _ _ _ _ h => h) (fun W W' hW hR => ⟨hW.1.below hR hW.1.lt, hW.2.1.below hR hW.2.1.lt, grown_below hW.2.2 hR⟩) (by show dstsOk _ 40 = true; decide +kernel) (by decide +kernel) (by decide +kernel) rfl (by decide +kernel) (⟨HK.out.2.2.2.2.1.1.drew, HK.out.2.2.2.2.1.2.1.drew, grown_below HK.out.2.2.2.2.1.2.2 (Below.refl _ _).drew⟩) ⟨?_, ?_, ?_, ?_, ?_, ?_, ?_, ?_, ?_, trivial⟩ ?_
          · intro a' W hfr hG hdep; refine J_of (by simp) (fun _ => rfl) ?_; have d1 : a'.eval (.tmp 0) = .pointer (some ⟨g, 0, none⟩) := hfr 0 (by decide +kernel); exact F_move rfl d1 trivial (Below.refl _ _)
          · intro a' W hfr hG hdep; refine J_of (by simp) (fun _ => rfl) ?_; have d1 : a'.eval (.tmp 5) = .int .i64 (i : Int) := hfr 5 (by decide +kernel); exact F_move rfl d1 trivial (Below.refl _ _)
          · intro a' W hfr hG hdep; refine J_of (by simp) (fun _ => rfl) ?_; have d1 : a'.eval (.tmp 5) = .int .i64 (i : Int) := hfr 5 (by decide +kernel); exact F_move rfl d1 trivial (Below.refl _ _)
          · intro a' W hfr hG hdep; refine J_of (by simp) (fun _ => rfl) ?_; have d1 : a'.eval (.tmp 2) = .pointer (some ⟨lb, 0, none⟩) := hfr 2 (by decide +kernel); have d2 : a'.eval (.tmp 29) = .int .i64 (i : Int) := hdep 2 (by decide +kernel); refine F_val (v := .pointer (some ⟨lb, i, none⟩)) ?_ trivial (Below.refl _ _); simp only [execOp, d1, d2]; first | (simp [go_sem, Act.eval, iw0, iw2]; done) | (simp [go_sem, Act.eval]; omega)
          · intro a' W hfr hG hdep; refine J_of (by simp) (fun _ => rfl) ?_; have d1 : a'.eval (.tmp 30) = .pointer (some ⟨lb, i, none⟩) := hdep 3 (by decide +kernel); exact F_load rfl d1 (load_u64r ((hG.2.1.cell i).trans HK.out.2.2.2.2.2)) trivial (Below.refl _ _)
          · intro a' W hfr hG hdep; refine J_of (by simp) (fun _ => rfl) ?_; have d1 : a'.eval (.tmp 31) = .int .u64 (p : Int) := hdep 4 (by decide +kernel); refine F_call rfl Tryz.func58 rfl (by decide) (args := #[.int .u64 (p : Int)]) (by simp only [List.map_toArray, List.map_cons, List.map_nil, d1] <;> rfl) (square_any p W hp1000) ?_; rintro e w' ⟨rfl, hb⟩; exact ⟨rfl, trivial, hb⟩
          · intro a' W hfr hG hdep; refine J_of (by simp) (fun _ => rfl) ?_; have d1 : a'.eval (.tmp 27) = .pointer (some ⟨g, 0, none⟩) := hdep 0 (by decide +kernel); refine F_val (v := .pointer (some ⟨g, 0, none⟩)) ?_ trivial (Below.refl _ _); simp only [execOp, d1]; first | (simp [go_sem, Act.eval, u32v]; done) | (simp [go_sem, Act.eval, u32v]; rw [IntKind.wrap_i64]; omega) | (simp [go_sem, Act.eval, u32v]; omega)
          · intro a' W hfr hG hdep; refine J_of (by simp) (fun _ => rfl) ?_; have d1 : a'.eval (.tmp 33) = .pointer (some ⟨g, 0, none⟩) := hdep 6 (by decide +kernel); refine F_val (v := .pointer (some ⟨g, 65, none⟩)) ?_ trivial (Below.refl _ _); simp only [execOp, d1]; first | (simp [go_sem, Act.eval, u32v]; done) | (simp [go_sem, Act.eval, u32v]; rw [IntKind.wrap_i64]; omega) | (simp [go_sem, Act.eval, u32v]; omega)
          · intro a' W hfr hG hdep; refine J_of (by simp) (fun _ => rfl) ?_; have d1 : a'.eval (.tmp 34) = .pointer (some ⟨g, 65, none⟩) := hdep 7 (by decide +kernel); have d2 : a'.eval (.tmp 28) = .int .i64 (i : Int) := hdep 1 (by decide +kernel); refine F_val (v := .pointer (some ⟨g, 65 + i, none⟩)) ?_ trivial (Below.refl _ _); simp only [execOp, d1, d2]; first | (simp [go_sem, Act.eval, iw0, iw1]; done) | (simp [go_sem, Act.eval]; omega)
          intro o ho a' W hdd hsz hfr hG hJ
          have e1 : o.op = .store 26 (.tmp 35) (.tmp 32) ∧ o.dst = none := by cases ho; exact ⟨rfl, rfl⟩
          clear ho
          have hp1 : a'.eval (.tmp 35) = .pointer (some ⟨g, 65 + i, none⟩) := hJ 8 (by decide)
          have hv1 : a'.eval (.tmp 32) = u32v (Sha.rootN (Sha.sqP p)) := hJ 5 (by decide)
          refine wp_store_row 26 _ _ e1.1 _ _ _ hp1 hv1 (store_u32 (show W.cell? ⟨g, 65 + i, none⟩ = some (u32v 0) from (hG.1.cell (65 + i)).trans (by rw [List.getElem?_toArray]; exact stL_h Sha.ktab_len HK.out.2.1 HK.out.2.2.1)) (hG.1.frozen (65 + i)) _ rfl) ?_
          rw [e1.2]
          have HG := Lib.hid hG
          clear hp1 hv1 e1 hG
          have e := act_of_slots (fun zi => ([.pointer (some ⟨g, 0, none⟩), .int .i64 (i : Int), .int .i64 (i : Int), .pointer (some ⟨lb, i, none⟩), .int .u64 (p : Int), u32v (Sha.rootN (Sha.sqP p)), .pointer (some ⟨g, 0, none⟩), .pointer (some ⟨g, 65, none⟩), .pointer (some ⟨g, 65 + i, none⟩)] : List Value).getD zi undef) (by show dstsOk _ 40 = true; decide +kernel) hdd hsz hfr (fun zj hj => by
            by_cases h : zj < 9
            · exact hJ zj h
            · obtain rfl : zj = 9 := by have hj' : zj < 10 := hj; omega
              rfl)
          clear hJ hfr hdd hsz
          have hrg : List.range 10 = [0, 1, 2, 3, 4, 5, 6, 7, 8, 9] := rfl
          simp only [layAll, List.map_cons, List.map_nil, List.size_toArray, List.length_cons, List.length_nil, Nat.reduceAdd, hrg, List.zip_cons_cons, List.zip_nil_left, List.foldl_cons, List.foldl_nil, List.getD_cons_zero, List.getD_cons_succ, List.getD_nil, Act.put, List.setIfInBounds_toArray, List.set_cons_zero, List.set_cons_succ] at e
          subst e
          clear hrg
          apply_assumption
          have hB6 := (HG.out.1.set_ (65 + i) (u32v (Sha.rootN (Sha.sqP p))))
          rw [List.setIfInBounds_toArray, stL_setH Sha.ktab_len HK.out.2.1 hlt, HK.out.2.2.2.1] at hB6
          have hL6 := HG.out.2.1.far (p := ⟨g, 65 + i, none⟩) (fun e => hlg e.symm) (u32v (Sha.rootN (Sha.sqP p)))
          have hg6 : w.grownBy (W.setCell ⟨g, 65 + i, none⟩ (u32v (Sha.rootN (Sha.sqP p)))) (some g) := grown_on HG.out.2.2 (grownBy_set W ⟨g, 65 + i, none⟩ _) (fun j e => .inr (by injection e with e; exact e.symm))
          have H6 := Lib.hid (And.intro hB6 (And.intro hL6 hg6))
          clear hB6 hL6 hg6
          go_wp2_with fail
          go_roundw
          case rel => exact ⟨i + 1, by omega, by go_num, H6.out.1, H6.out.2.1, H6.out.2.2⟩
          case measure => simp [intOf]; omega
        · have hge2 : ¬ (i : Int) < 8 := by omega
          obtain rfl : i = 8 := by omega
          have hht : Sha.padL 8 (Sha.htab.take 8) 0 = Sha.htab := by
            rw [List.take_of_length_le (Nat.le_of_eq Sha.htab_len)]
            exact Sha.padL_full 0 Sha.htab_len
          rw [hht] at hB
          have m0 : wr.cell? ⟨g, 0, none⟩ = some (.bool false) := hB.cell 0
          have m1 := hB.frozen 0
          have hB9 := hB.set_ 0 (.bool true)
          rw [List.setIfInBounds_toArray, stL_setM] at hB9
          have hg9 : w.grownBy (wr.setCell ⟨g, 0, none⟩ (.bool true)) (some g) := grown_on hg (grownBy_set wr ⟨g, 0, none⟩ _) (fun j e => .inr (by injection e with e; exact e.symm))
          have H9 := Lib.hid (And.intro hg9 hB9)
          clear hB hL hg hht hB9 hg9
          go_wp2_with fail
          go_end0
          exact ⟨rfl, H9.out.1, H9.out.2⟩
end Go.Proofs.YtmpladnglfiejaaGreatDoor
