/- The contract of the law's With. -/
import Derived.Test.YtmnekhliblkibaaExtW
namespace Go.Proofs.Ytmnekhliblkibaa
open Go.RowKit
set_option maxRecDepth 1000000
set_option linter.unusedVariables false
set_option linter.unusedSimpArgs false
set_option maxHeartbeats 8000000

def X.tail (l : List (List UInt8)) : List (List UInt8) := if l = [] then [] else [Der.write 163 (Ref.seq l)]
theorem with_any (k : Kase) (A0 A1 A2 : Option Addr) (n0 c0 n1 c1 n2 c2 : Nat) (w : World) (hk : k.come w A0 A1 A2 n0 c0 n1 c1 n2 c2) (Al : Option Addr) (nl cl : Nat) (le : List (Value × List UInt8)) (hle : RdL w w.heap.size Al nl cl le) (hnl : nl ≤ 1000) (hcl : (cat le).length ≤ 10000000) :
    Calls Try.prog 29 #[k.val (.slice A0 n0 c0) (.slice A1 n1 c1) (.slice A2 n2 c2), .slice Al nl cl] w (RetOwn (Ref.wr (Ref.seq (k.els.map (·.2.2) ++ X.tail (le.map (·.2)))) (k.sig.take 100)) w) := by
  have hKB : Blk (w.alloc (.cells (k.row (.slice A0 n0 c0) (.slice A1 n1 c1) (.slice A2 n2 c2)) 42)) w.heap.size 42 (k.row (.slice A0 n0 c0) (.slice A1 n1 c1) (.slice A2 n2 c2)) := Blk.new w _ _
  have hb01 : Below w.heap.size w (w.alloc (.cells (k.row (.slice A0 n0 c0) (.slice A1 n1 c1) (.slice A2 n2 c2)) 42)) := (Below.refl _ w).alloc (Nat.le_refl _) _
  have HE := elements_any k A0 A1 A2 n0 c0 n1 c1 n2 c2 _ (hk.up hb01)
  have hcat := els_cat k hk.path
  have hll := hle.len
  have HK := Lib.hid (And.intro hk (And.intro (hle.up hb01) (And.intro hb01 (And.intro hcat (And.intro hcl hll)))))
  clear hk hle hb01 hcat hll
  obtain ⟨KV, hKV⟩ : ∃ KV, KV = k.val (.slice A0 n0 c0) (.slice A1 n1 c1) (.slice A2 n2 c2) := ⟨_, rfl⟩
  have hKV2 : KV = Value.agg (k.row (.slice A0 n0 c0) (.slice A1 n1 c1) (.slice A2 n2 c2)) := hKV
  rw [← hKV]
  clear hKV
  subst hKV2
  go_enter Try.func29, Try.ntmps29
  go_wp2_with (first
    | ((with_reducible refine at_load_case ?_); refine wpList_load_case rfl _ rfl w.heap.size k (.slice A0 n0 c0) (.slice A1 n1 c1) (.slice A2 n2 c2) rfl hKB ?_)
    | fail)
  refine HE.mono ?_
  clear HE
  rintro en w1 ⟨A, c, l, rfl, hX, hlm, hb1⟩
  dsimp only
  have hs01 := HK.out.2.2.1.size
  have hbw1 : Below w.heap.size w w1 := HK.out.2.2.1.trans (hb1.mono hs01)
  have hB1 := hKB.below hb1 (by simp)
  have k2 : w1.cell? ⟨w.heap.size, 2, none⟩ = some (.slice A2 n2 c2) := hB1.cell 2
  have hsz1 : w.heap.size < w1.heap.size := hB1.lt
  have H1 := Lib.hid (And.intro hX (And.intro hlm (And.intro hbw1 (And.intro (HK.out.2.1.up hb1) hB1))))
  clear hX hlm hbw1 hb1 hB1 hKB hs01
  -- what region 4 does, whatever the row of elements is
  rcases Nat.eq_zero_or_pos nl with hz | hz
  · subst hz
    have hz' : ¬ ((0 : Nat) : Int) > 0 := by omega
    have hle0 : le = [] := List.eq_nil_of_length_eq_zero HK.out.2.2.2.2.2
    obtain ⟨Av, cv, e9, hrdl⟩ := H1.out.1.rdl
    injection e9 with e91 e92 e93
    subst e91 e93
    have hl7 : l.length = 7 := by
      have h1 := congrArg List.length H1.out.2.1
      rw [List.length_map, List.length_map, els_len] at h1
      exact h1
    rw [hl7] at hrdl
    clear e92
    have hmap : l.map (·.2) = k.els.map (·.2.2) ++ X.tail (le.map (·.2)) := by rw [H1.out.2.1, hle0]; unfold X.tail; simp
    have HSeq : ∀ W, Below w1.heap.size w1 W → Calls Try.prog 33 #[.slice A 7 c] W (RetOwn (Ref.seq (k.els.map (·.2.2) ++ X.tail (le.map (·.2)))) W) := fun W hW => by
      have h := refSeq_any _ _ _ _ W (hrdl.up hW) (by omega) (by unfold cat; rw [H1.out.2.1]; have := HK.out.2.2.2.1; omega)
      rwa [hmap] at h
    have HShort : ∀ W, Below w1.heap.size w1 W → Calls Try.prog 51 #[.slice A2 n2 c2, .int .i64 100] W (RetOwn (k.sig.take 100) W) := fun W hW =>
      short_any 100 A2 n2 c2 k.sig W ((HK.out.1.r2.up H1.out.2.2.1).up hW) (by omega) (by have h1 := HK.out.1.r2.cap; have h2 := HK.out.1.r2.capm; omega)
    have hlx : (Ref.seq (k.els.map (·.2.2) ++ X.tail (le.map (·.2)))).length ≤ 100000000 := by
      rw [← hmap, H1.out.2.1]
      unfold Ref.seq
      have h2 := HK.out.2.2.2.1
      have h3 := write_lt 48 (k.els.map (·.2.2)).flatten 10000000 (by omega) (by omega)
      omega
    have H2 := Lib.hid (And.intro HSeq (And.intro HShort (And.intro hlx H1.out.2.2.1)))
    clear HSeq HShort hlx hrdl hmap hl7 hle0
    go_upto_region 4 with fail
    go_region_held2 (fun w' => w'.cell? ⟨w.heap.size, 2, none⟩ = some (.slice A2 n2 c2)) (first | go_keep)
      (first
        | (go_at_call 33; ((with_reducible refine (H2.out.1 _ (Below.refl _ _).drew).mono ?_); rintro en wa ⟨A3x, n3x, c3x, rfl, ho3x, hb3x⟩); have hb3y : Below w1.heap.size w1 wa := Below.trans (by (repeat (first | exact Below.refl _ _ | assumption | (refine Below.setCell ?_ (by first | omega | (simp; done) | (simp; omega)) _) | (refine Below.alloc ?_ (by first | omega | (simp; done) | (simp; omega)) _) | (refine below_drewN ?_ _) | (refine Below.drew ?_)))) (hb3x.mono (Nat.le_refl _)); have k2_3 : wa.cell? ⟨w.heap.size, 2, none⟩ = some (.slice A2 n2 c2) := (hb3y.cell (p := ⟨w.heap.size, 2, none⟩) hsz1).trans k2; have H3x := Lib.hid (And.intro ho3x hb3y); clear ho3x hb3x hb3y)
        | (go_at_call 51; ((with_reducible refine (H2.out.2.1 _ H3x.out.2).mono ?_); rintro en wb ⟨A4x, n4x, c4x, rfl, ho4x, hb4x⟩); have k2_4 : wb.cell? ⟨w.heap.size, 2, none⟩ = some (.slice A2 n2 c2) := (hb4x.cell (p := ⟨w.heap.size, 2, none⟩) (by have := H3x.out.2.size; show w.heap.size < wa.heap.size; omega)).trans k2_3; have H4x := Lib.hid (And.intro ho4x hb4x); clear ho4x hb4x)
        | (go_at_call 23; ((with_reducible refine (refWr_any A3x A4x n3x c3x n4x c4x _ _ _ (H3x.out.1.rdx.up H4x.out.2) H4x.out.1.rdx (by have h1 := ownB_len H3x.out.1; have h2 := H2.out.2.2.1; omega) (by have h1 := ownB_len H4x.out.1; rw [List.length_take] at h1; omega)).mono ?_); rintro en wc ⟨A5x, n5x, c5x, rfl, ho5x, hb5x⟩); have k2_5 : wc.cell? ⟨w.heap.size, 2, none⟩ = some (.slice A2 n2 c2) := (hb5x.cell (p := ⟨w.heap.size, 2, none⟩) (by have := H3x.out.2.size; have := H4x.out.2.size; show w.heap.size < wb.heap.size; omega)).trans k2_4; have H5x := Lib.hid (And.intro ho5x hb5x); clear ho5x hb5x))
    go_wp2
    go_ret
    have h3z := H2.out.2.2.2.trans (H3x.out.2.mono H2.out.2.2.2.size)
    have h4z := h3z.trans (H4x.out.2.mono h3z.size)
    have h5z := h4z.trans (H5x.out.2.mono h4z.size)
    exact ⟨A5x, n5x, c5x, rfl, H5x.out.1.mono h4z.size (Nat.le_refl _), h5z⟩
  · have hz' : ((nl : Nat) : Int) > 0 := by omega
    go_wp2_with fail
    refine (refSeq_any Al nl cl le w1 H1.out.2.2.2.1 (by omega) (by omega)).mono ?_
    rintro en w2 ⟨A6, n6, c6, rfl, ho6, hb6⟩
    dsimp only
    have hl6 := ownB_len ho6
    have hs6 : (Ref.seq (le.map (·.2))).length ≤ 10000006 := by
      unfold Ref.seq
      have h3 := write_lt 48 (le.map (·.2)).flatten 10000000 (by have := HK.out.2.2.2.2.1; unfold cat at this; exact this) (by omega)
      omega
    have hX2 := H1.out.1.below hb6
    have hbw2 := H1.out.2.2.1.trans (hb6.mono (by omega))
    have hB2 := H1.out.2.2.2.2.below hb6 hsz1
    have hr6 := ho6.rdx
    have H2 := Lib.hid (And.intro hX2 (And.intro hbw2 (And.intro hB2 hr6)))
    have hsz2 : w.heap.size < w2.heap.size := hB2.lt
    clear hX2 hbw2 hB2 hr6 ho6 hb6
    go_wp2_with fail
    refine (refWrite_lit 163 163 rfl A6 n6 c6 _ w2 H2.out.2.2.2 (by omega)).mono ?_
    rintro en w3 ⟨A7, n7, c7, rfl, ho7, hb7⟩
    dsimp only
    have hl7 := ownB_len ho7
    have hs7 := write_lt 163 (Ref.seq (le.map (·.2))) 10000006 hs6 (by omega)
    have hX3 := (H2.out.1.below hb7).alloc (.cells #[.slice A7 n7 c7] 22)
    have hr7 := (RdT.own ho7).alloc (.cells #[.slice A7 n7 c7] 22)
    have hbw3 := H2.out.2.1.trans (hb7.mono (by omega))
    have hB3 := H2.out.2.2.1.below hb7 hsz2
    have hs3 := hb7.size
    have hlo : (w.alloc (.cells (k.row (.slice A0 n0 c0) (.slice A1 n1 c1) (.slice A2 n2 c2)) 42)).heap.size ≤ w3.heap.size := by simp only [World.size_alloc]; omega
    obtain ⟨Av, cv, e9, hrdl0⟩ := H1.out.1.rdl
    injection e9 with e91 e92 e93
    subst e91 e93
    have hl70 : l.length = 7 := by
      have h1 := congrArg List.length H1.out.2.1
      rw [List.length_map, List.length_map, els_len] at h1
      exact h1
    clear e92 hrdl0
    have H3 := Lib.hid (And.intro hX3 (And.intro hr7 (And.intro (hbw3.alloc (by omega) (.cells #[.slice A7 n7 c7] 22)) (hB3.alloc (.cells #[.slice A7 n7 c7] 22)))))
    clear hX3 hr7 hbw3 hB3 ho7 hb7
    go_upto_region 4 with (first
      | (at_builtin; refine wpList_xs rfl (.tmp 11) (.tmp 15) rfl (w.alloc (.cells (k.row (.slice A0 n0 c0) (.slice A1 n1 c1) (.slice A2 n2 c2)) 42)).heap.size _ _ rfl H3.out.1 (by simp only [World.size_alloc] at hlo ⊢; omega) w3.heap.size (.slice A7 n7 c7) (Der.write 163 (Ref.seq (le.map (·.2)))) rfl (Blk.cell (Blk.new w3 _ _) 0) (by simp) H3.out.2.1 (by omega) ?_; intro v4 w4 hX4 hB4; obtain ⟨Av, cv, rfl, hrdl⟩ := hX4.rdl)
      | fail)
    have hlen8 : (l ++ [(Value.slice A7 n7 c7, Der.write 163 (Ref.seq (le.map (·.2))))]).length = 8 := by rw [List.length_append, hl70]; rfl
    rw [hlen8] at hrdl
    clear hlen8
    have hbw4 : Below w.heap.size w w4 := H3.out.2.2.1.trans (hB4.mono (by simp))
    have hB5 : Blk w4 w.heap.size 42 (k.row (.slice A0 n0 c0) (.slice A1 n1 c1) (.slice A2 n2 c2)) := H3.out.2.2.2.below hB4 (by simp)
    have k4 : w4.cell? ⟨w.heap.size, 2, none⟩ = some (.slice A2 n2 c2) := hB5.cell 2
    have hsz4 : w.heap.size < w4.heap.size := hB5.lt
    have hle1 : le.map (·.2) ≠ [] := by
      intro e
      have h1 := congrArg List.length e
      rw [List.length_map, HK.out.2.2.2.2.2] at h1
      simp at h1
      omega
    have hmap : (l ++ [(Value.slice A7 n7 c7, Der.write 163 (Ref.seq (le.map (·.2))))]).map (·.2) = k.els.map (·.2.2) ++ X.tail (le.map (·.2)) := by
      rw [List.map_append, H1.out.2.1]
      unfold X.tail
      rw [if_neg hle1]
      rfl
    have hcat8 : (k.els.map (·.2.2) ++ X.tail (le.map (·.2))).flatten.length ≤ 20000000 := by
      unfold X.tail
      rw [if_neg hle1, List.flatten_append, List.length_append]
      have h2 := HK.out.2.2.2.1
      simp only [List.flatten_cons, List.flatten_nil, List.append_nil]
      omega
    have HSeq : ∀ W, Below w4.heap.size w4 W → Calls Try.prog 33 #[.slice Av 8 cv] W (RetOwn (Ref.seq (k.els.map (·.2.2) ++ X.tail (le.map (·.2)))) W) := fun W hW => by
      have h := refSeq_any _ _ _ _ W (hrdl.up hW) (by omega) (by unfold cat; rw [hmap]; omega)
      rwa [hmap] at h
    have HShort : ∀ W, Below w4.heap.size w4 W → Calls Try.prog 51 #[.slice A2 n2 c2, .int .i64 100] W (RetOwn (k.sig.take 100) W) := fun W hW =>
      short_any 100 A2 n2 c2 k.sig W ((HK.out.1.r2.up hbw4).up hW) (by omega) (by have h1 := HK.out.1.r2.cap; have h2 := HK.out.1.r2.capm; omega)
    have hlx : (Ref.seq (k.els.map (·.2.2) ++ X.tail (le.map (·.2)))).length ≤ 100000000 := by
      unfold Ref.seq
      have h3 := write_lt 48 (k.els.map (·.2.2) ++ X.tail (le.map (·.2))).flatten 20000000 hcat8 (by omega)
      omega
    have H2 := Lib.hid (And.intro HSeq (And.intro HShort (And.intro hlx hbw4)))
    clear HSeq HShort hlx hrdl hmap hcat8 hB5 hbw4 hX4 hB4
    go_region_held2 (fun w' => w'.cell? ⟨w.heap.size, 2, none⟩ = some (.slice A2 n2 c2)) (first | go_keep)
      (first
        | (go_at_call 33; ((with_reducible refine (H2.out.1 _ (Below.refl _ _).drew).mono ?_); rintro en wa ⟨A3x, n3x, c3x, rfl, ho3x, hb3x⟩); have hb3y : Below w4.heap.size w4 wa := Below.trans (by (repeat (first | exact Below.refl _ _ | assumption | (refine Below.setCell ?_ (by first | omega | (simp; done) | (simp; omega)) _) | (refine Below.alloc ?_ (by first | omega | (simp; done) | (simp; omega)) _) | (refine below_drewN ?_ _) | (refine Below.drew ?_)))) (hb3x.mono (Nat.le_refl _)); have k2_3 : wa.cell? ⟨w.heap.size, 2, none⟩ = some (.slice A2 n2 c2) := (hb3y.cell (p := ⟨w.heap.size, 2, none⟩) hsz4).trans k4; have H3x := Lib.hid (And.intro ho3x hb3y); clear ho3x hb3x hb3y)
        | (go_at_call 51; ((with_reducible refine (H2.out.2.1 _ H3x.out.2).mono ?_); rintro en wb ⟨A4x, n4x, c4x, rfl, ho4x, hb4x⟩); have k2_4 : wb.cell? ⟨w.heap.size, 2, none⟩ = some (.slice A2 n2 c2) := (hb4x.cell (p := ⟨w.heap.size, 2, none⟩) (by have := H3x.out.2.size; show w.heap.size < wa.heap.size; omega)).trans k2_3; have H4x := Lib.hid (And.intro ho4x hb4x); clear ho4x hb4x)
        | (go_at_call 23; ((with_reducible refine (refWr_any A3x A4x n3x c3x n4x c4x _ _ _ (H3x.out.1.rdx.up H4x.out.2) H4x.out.1.rdx (by have h1 := ownB_len H3x.out.1; have h2 := H2.out.2.2.1; omega) (by have h1 := ownB_len H4x.out.1; rw [List.length_take] at h1; omega)).mono ?_); rintro en wc ⟨A5x, n5x, c5x, rfl, ho5x, hb5x⟩); have k2_5 : wc.cell? ⟨w.heap.size, 2, none⟩ = some (.slice A2 n2 c2) := (hb5x.cell (p := ⟨w.heap.size, 2, none⟩) (by have := H3x.out.2.size; have := H4x.out.2.size; show w.heap.size < wb.heap.size; omega)).trans k2_4; have H5x := Lib.hid (And.intro ho5x hb5x); clear ho5x hb5x))
    go_wp2
    go_ret
    have h3z := H2.out.2.2.2.trans (H3x.out.2.mono H2.out.2.2.2.size)
    have h4z := h3z.trans (H4x.out.2.mono h3z.size)
    have h5z := h4z.trans (H5x.out.2.mono h4z.size)
    exact ⟨A5x, n5x, c5x, rfl, H5x.out.1.mono h4z.size (Nat.le_refl _), h5z⟩
end Go.Proofs.Ytmnekhliblkibaa
