/- The reference's reading: the sections (under way). -/
import Derived.Test.YtlfajfmkljnodaaDoorPeR4
import Derived.Test.YtlfajfmkljnodaaDoorPK
import Derived.Test.YtlfajfmkljnodaaDoorPeBL
namespace Go.Proofs.YtlfajfmkljnodaaDoor
open Go.RowKit
set_option maxRecDepth 100000
set_option linter.unusedVariables false
set_option linter.unusedSimpArgs false
namespace Pe
theorem tiles_append : ∀ (a b : List (Nat × Nat)) (h : Nat), tiles h (a ++ b) = (tiles h a && tiles (h + sizes a) b)
  | [], b, h => by simp [tiles, sizes]
  | (o, z) :: a, b, h => by
    have e : sizes ((o, z) :: a) = z + sizes a := by unfold sizes; rw [List.map_cons, List.sum_cons]
    rw [List.cons_append, tiles, tiles, tiles_append a b (h + z), e, Nat.add_assoc, Bool.and_assoc]
theorem tiles_not {S : List (Nat × Nat)} {h q : Nat} {x : Nat × Nat} (hx : S[q]? = some x) (hn : x.1 ≠ h + sizes (S.take q)) : tiles h S = false := by
  obtain ⟨g1, g2⟩ := List.getElem?_eq_some_iff.1 hx
  obtain ⟨o, z⟩ := x
  have e : S = S.take q ++ (o, z) :: S.drop (q + 1) := by
    conv => lhs; rw [← List.take_append_drop q S, List.drop_eq_getElem_cons g1, g2]
  have e2 : tiles (h + sizes (S.take q)) ((o, z) :: S.drop (q + 1)) = false := by
    rw [tiles]
    have : (o == h + sizes (S.take q)) = false := by simpa using hn
    rw [this]; rfl
  rw [e, tiles_append]
  rw [e2, Bool.and_false]
end Pe
/-- What the reference's sections answers. -/
def SecsOutR (xs : List UInt8) (w : World) (e : Ending) (w' : World) : Prop :=
  Below w.heap.size w w' ∧ (Pe.laid xs = true → ∃ v, e = .returned (.tuple #[v, .int .i64 (Pe.end_ xs : Int), .bool true]) ∧ OwnC 43 2 w' w.heap.size w'.heap.size v (Pe.secs xs).length ((Pe.secs xs).flatMap secC)) ∧
    (Pe.laid xs = false → ∃ v z, e = .returned (.tuple #[v, z, .bool false]))
set_option maxHeartbeats 4000000 in
theorem sectionsR_any (A : Option Addr) (n c T m hd : Nat) (xs : List UInt8) (w : World) (h : Rd w w.heap.size A n c xs) (hn : n ≤ 16777216) (hT : Pe.table xs = T) (hm : Pe.many xs = m) (hH : Pe.headers xs = hd) (hTl : T + 40 * m ≤ n) (hM : m ≤ 96) (hhd : hd ≤ n) :
    Calls Tryd.prog 30 #[.slice A n c, .int .i64 (T : Int), .int .i64 (m : Int), .int .i64 (hd : Int)] w (SecsOutR xs w) := by
  have hl := h.len
  have H := Lib.hid (And.intro h (And.intro hT (And.intro hm hH)))
  clear h hT hm hH
  go_enter Tryd.func30, Tryd.ntmps30
  go_wp2_with fail
  go_loopw [11, 12, 13, 14] (fun v i _ _ wr => ∃ j : Nat, j ≤ m ∧ i = .int .i64 (j : Int) ∧ OwnC 43 2 wr w.heap.size wr.heap.size v (Pe.secsTo xs j).length ((Pe.secsTo xs j).flatMap secC) ∧ Below w.heap.size w wr) (fun _ i _ _ _ => m - (intOf i).toNat)
  case atStart => exact ⟨0, Nat.zero_le _, rfl, OwnC.nil_, Below.refl _ _⟩
  case round =>
    obtain ⟨j, hj, rfl, ho, hb⟩ := hrel
    have hsz := hb.size
    have hlenj := Pe.secsTo_len xs j
    by_cases hlt : j < m
    · have hlt' : (j : Int) < m := by omega
      obtain ⟨p, hp⟩ : ∃ p, T + 40 * j = p := ⟨_, rfl⟩
      have hpl : p + 40 ≤ n := by omega
      have hpi : (T : Int) + 40 * (j : Int) = (p : Int) := by omega
      obtain ⟨W1, hW1⟩ : ∃ W1, wr.alloc (.cells #[.int .i64 ((p : Int) + 16), .int .i64 4, .int .i64 ((p : Int) + 20), .int .i64 4] 67) = W1 := ⟨_, rfl⟩
      have hB1 : Blk W1 wr.heap.size 67 ([(p + 16, 4), (p + 20, 4)].flatMap pairC).toArray := by
        rw [← hW1]
        have h1 := Blk.new wr 67 #[.int .i64 ((p : Int) + 16), .int .i64 4, .int .i64 ((p : Int) + 20), .int .i64 4]
        simpa [pairC] using h1
      have hb1 : Below w.heap.size w W1 := by rw [← hW1]; exact hb.alloc hsz _
      have hbr1 : Below wr.heap.size wr W1 := by rw [← hW1]; exact (Below.refl _ _).alloc (Nat.le_refl _) _
      have hs1 : W1.heap.size = wr.heap.size + 1 := by rw [← hW1]; simp
      have hnum := numbersR_any A n c wr.heap.size 2 xs [(p + 16, 4), (p + 20, 4)] W1 ((H.out.1.below hb1).more hb1.size) (by omega) hB1 rfl (by omega) (by
        intro q hq
        simp only [List.mem_cons, List.not_mem_nil, or_false] at hq
        rcases hq with rfl | rfl
        · exact ⟨by dsimp only; omega, .inr (.inr rfl)⟩
        · exact ⟨by dsimp only; omega, .inr (.inr rfl)⟩)
      have hbi : ([(p + 16, 4), (p + 20, 4)].all fun p => Pe.inb xs p.1 p.2) = true := by simp [Pe.inb]; omega
      rw [hbi] at hnum
      have hsec : Pe.secAt xs j = if Pe.at_ xs (p + 16) 4 = 0 then none else some (Pe.at_ xs (p + 20) 4, Pe.at_ xs (p + 16) 4) := by
        unfold Pe.secAt
        rw [H.out.2.1, hp]
      have HI := Lib.hid (And.intro ho (And.intro hb (And.intro hb1 (And.intro hbr1 (And.intro hnum hsec)))))
      clear ho hb hb1 hbr1 hnum hsec hB1 hbi hp
      go_wp2_with fail
      refine HI.out.2.2.2.2.1.mono ?_
      rintro e w1 ⟨hbn, v1, rfl, hv1⟩
      clear hW1
      have hb1 : Below w.heap.size w w1 := HI.out.2.2.1.trans (hbn.mono HI.out.2.2.1.size)
      have hbr : Below wr.heap.size wr w1 := HI.out.2.2.2.1.trans (hbn.mono (by omega))
      have hown := hv1 (by first | rfl | trivial)
      obtain ⟨gx, capx, ex, _, _⟩ := hown.1.form (by omega)
      have hgx := hown.2 gx (by rw [ex]; rfl)
      have hgx0 : W1.heap.size ≤ gx := (hown.1.lt gx (by rw [ex]; rfl)).1
      subst ex
      obtain ⟨a, ha⟩ : ∃ N, Pe.at_ xs (p + 20) 4 = N := ⟨_, rfl⟩
      obtain ⟨bz, hbz⟩ : ∃ N, Pe.at_ xs (p + 16) 4 = N := ⟨_, rfl⟩
      have hal : a < 4294967296 := by rw [← ha]; exact Pe.at_lt4 _ _
      have hbzl : bz < 4294967296 := by rw [← hbz]; exact Pe.at_lt4 _ _
      have k0 : w1.cell? ⟨gx, 0, none⟩ = some (.int .i64 (bz : Int)) := (hown.1.cellAt 0 (by omega)).trans (by rw [← hbz]; rfl)
      have k1 : w1.cell? ⟨gx, 1, none⟩ = some (.int .i64 (a : Int)) := (hown.1.cellAt 1 (by omega)).trans (by rw [← ha]; rfl)
      have hsec := HI.out.2.2.2.2.2
      rw [ha, hbz] at hsec
      have HJ := Lib.hid (And.intro hb1 (And.intro hbr hsec))
      have hs1' := hb1.size
      have hs2' := hbr.size
      clear hb1 hbr hsec hbn hown hv1 ha hbz
      have hwa : IntKind.u32.wrap (a : Int) = (a : Int) := by simp only [IntKind.wrap, IntKind.bits, IntKind.signed]; simp; omega
      have hwb : IntKind.u32.wrap (bz : Int) = (bz : Int) := by simp only [IntKind.wrap, IntKind.bits, IntKind.signed]; simp; omega
      have hown1 := (HI.out.1.below HJ.out.2.1 (Nat.le_refl _)).mono (Nat.le_refl _) hs2'
      have HO := Lib.hid hown1
      clear hown1
      by_cases h0 : bz = 0
      · subst h0
        go_wp2_with fail
        go_roundw
        case rel => exact ⟨j + 1, by omega, by go_num, (by rw [Pe.secsTo_succ, HJ.out.2.2]; simpa using HO.out), HJ.out.1⟩
        case measure => simp [intOf]; omega
      · have h0' : (0 : Int) < bz := by omega
        go_upto_region 9 with fail
        go_region_held3 (fun w' => w'.cell? ⟨gx, 0, none⟩ = some (.int .i64 (bz : Int)) ∧ w'.cell? ⟨gx, 1, none⟩ = some (.int .i64 (a : Int))) (go_keep)
          (first
            | ((refine step_appC (by rfl) (.tmp 47) (.tmp 57) 25 (by rfl) 43 _ 2 8 sec_info Tryd.underlying25 (by rfl) (by omega) w.heap.size w1.heap.size _ (Pe.secsTo xs j).length ((Pe.secsTo xs j).flatMap secC) (by rfl) (by exact (HO.out.alloc (Nat.le_refl _) (.cells #[.int .u32 (a : Int), .int .u32 (bz : Int)] 43)).keep fun _ _ _ => rfl) (by simp; omega) _ _ 1 1 [.int .u32 (a : Int), .int .u32 (bz : Int)] (by rfl) (by exact reads_twoS w1 43 (.int .u32 (a : Int)) (.int .u32 (bz : Int)) w1.heap.size rfl) (by simp [Value.oneCell']) (by omega) (by omega) ?_); intro v2 w2 ho2 hg2 hat2 hb2; have hne : some gx ≠ u11.ownBlock := (fun e => by have h1 := HI.out.1.2 gx e.symm; omega); have hbk : w2.heap[gx]? = w1.heap[gx]? := (hg2.block gx (by simp; omega) hne).trans (Below.heap_alloc w1 _ gx hgx); have z0 : w2.cell? ⟨gx, 0, none⟩ = some (.int .i64 (bz : Int)) := (World.cell?_of_block (a := ⟨gx, 0, none⟩) hbk).trans k0; have z1 : w2.cell? ⟨gx, 1, none⟩ = some (.int .i64 (a : Int)) := (World.cell?_of_block (a := ⟨gx, 1, none⟩) hbk).trans k1; have hbw2 : Below w.heap.size w w2 := (HJ.out.1.alloc (by omega) (.cells #[.int .u32 (a : Int), .int .u32 (bz : Int)] 43)).drew.trans hb2; have HA := Lib.hid (And.intro ho2 hbw2); clear ho2 hg2 hat2 hb2 hne hbk hbw2)
            | fail)
        go_wp2_with fail
        go_roundw
        case rel => exact ⟨j + 1, by omega, by go_num, (by rw [Pe.secsTo_succ, HJ.out.2.2, if_neg h0]; simp only [List.flatMap_append, List.length_append]; exact HA.out.1), HA.out.2⟩
        case measure => simp [intOf]; omega
    · obtain rfl : j = m := by omega
      have hge : ¬ (j : Int) < j := by omega
      have hst : Pe.secsTo xs j = Pe.secs xs := by unfold Pe.secsTo Pe.secs; rw [H.out.2.2.1]
      rw [hst] at ho hlenj
      have hsm := Pe.secs_small xs
      have hpos := Pe.secs_pos xs
      obtain ⟨Ss, hSs⟩ : ∃ S, Pe.secs xs = S := ⟨_, rfl⟩
      have hend : Pe.end_ xs = hd + Pe.sizes Ss := by unfold Pe.end_; rw [H.out.2.2.2, hSs]
      have hlaid : Pe.laid xs = (Pe.tiles hd (Pe.riseS Ss) && decide (Pe.end_ xs ≤ n)) := by unfold Pe.laid; rw [H.out.2.2.2, hSs, hl]
      rw [hSs] at ho hlenj hsm hpos
      obtain ⟨Av, cv, ev, hrd⟩ := ho.rdS
      obtain ⟨k, hk⟩ : ∃ k, Ss.length = k := ⟨_, rfl⟩
      rw [hk] at ho ev hrd hlenj
      subst ev
      have hri := riseR_any Av k cv Ss wr hrd (by omega)
      have HO := Lib.hid (And.intro ho (And.intro hb (And.intro hri (And.intro hend (And.intro hlaid (And.intro hSs (And.intro hsm hpos)))))))
      clear ho hb hri hend hlaid hSs hsm hpos hrd hst
      go_wp2_with fail
      refine HO.out.2.2.1.mono ?_
      rintro e w1 ⟨hb1, v1, rfl, S, hperm, hrise, hown⟩
      obtain ⟨Ar, cr, er, hrr⟩ := hown.rdS
      subst er
      have hti : Pe.tiles hd S = Pe.tiles hd (Pe.riseS Ss) := Pe.tiles_rise hd hperm hrise (fun x hx => HO.out.2.2.2.2.2.2.2 x hx)
      have hsz2 : Pe.sizes S = Pe.sizes Ss := Pe.perm_sizes hperm
      have hsl : S.length = k := hperm.length_eq.trans hk
      have hbw1 : Below w.heap.size w w1 := HO.out.2.1.trans (hb1.mono HO.out.2.1.size)
      have how : OwnC 43 2 w1 w.heap.size w1.heap.size (.slice Av k cv) k (Ss.flatMap secC) := (HO.out.1.below hb1 (Nat.le_refl _)).mono (Nat.le_refl _) hb1.size
      have hsmS : ∀ x ∈ S, x.1 < 4294967296 ∧ x.2 < 4294967296 := fun x hx => HO.out.2.2.2.2.2.2.1 x (hperm.mem_iff.1 hx)
      have hszl : ∀ q, Pe.sizes (S.take q) ≤ 96 * 4294967296 := fun q => by
        have h1 := Pe.sizes_le (m := 4294967296) (S.take q) fun x hx => Nat.le_of_lt (hsmS x (List.mem_of_mem_take hx)).2
        have h2 : (S.take q).length ≤ 96 := by rw [List.length_take]; omega
        exact Nat.le_trans h1 (Nat.mul_le_mul_right 4294967296 h2)
      have HP := Lib.hid (And.intro hbw1 (And.intro how (And.intro hrr (And.intro hti (And.intro hsz2 (And.intro hsl (And.intro hsmS hszl)))))))
      clear hbw1 how hrr hti hsz2 hsl hsmS hszl hb1 hown hperm hrise
      go_wp2_with fail
      go_loopw [15, 17] (fun v i wq => ∃ q : Nat, q ≤ k ∧ i = .int .i64 (q : Int) ∧ v = .int .i64 ((hd + Pe.sizes (S.take q) : Nat) : Int) ∧ Pe.tiles hd (S.take q) = true ∧ wq = w1) (fun _ i _ => k - (intOf i).toNat)
      case atStart => exact ⟨0, Nat.zero_le _, rfl, by simp [Pe.sizes], rfl, rfl⟩
      case round =>
        obtain ⟨q, hq, rfl, rfl, htl, rfl⟩ := hrel
        have hzq := HP.out.2.2.2.2.2.2.2 q
        obtain ⟨z, hz⟩ : ∃ z, hd + Pe.sizes (S.take q) = z := ⟨_, rfl⟩
        by_cases hlq : q < k
        · have hlq' : (q : Int) < k := by omega
          obtain ⟨bb, oo, ⟨y1, y2⟩, rfl, hbB, hy, t1, t2⟩ := HP.out.2.2.1.get hlq
          dsimp only at t1 t2
          have hys := HP.out.2.2.2.2.2.2.1 _ (List.mem_of_getElem? hy)
          dsimp only at hys
          have htk : S.take (q + 1) = S.take q ++ [(y1, y2)] := take_snoc hy
          have hzl : z ≤ 500000000000 := by omega
          have hzn : hd + Pe.sizes (S.take (q + 1)) = z + y2 := by rw [htk, Pe.sizes_snoc, ← hz, Nat.add_assoc]
          by_cases hyz : y1 = z
          · have htn : Pe.tiles hd (S.take (q + 1)) = true := by rw [htk, Pe.tiles_snoc, htl, hz]; simp [hyz]
            have hyb : ((y1 : Int) != z) = false := by simp; omega
            have HR := Lib.hid (And.intro htn hzn)
            rw [hz]
            clear htn hzn htk hy htl hzq hz hyz
            go_wp2_with fail
            go_roundw
            case rel => exact ⟨q + 1, by omega, by go_num, by rw [HR.out.2]; go_num, HR.out.1, by first | rfl | trivial⟩
            case measure => simp [intOf]; omega
          · have hyb : ((y1 : Int) != z) = true := by simp; omega
            have hlf : Pe.laid xs = false := by
              rw [HO.out.2.2.2.2.1, ← HP.out.2.2.2.1, Pe.tiles_not hy (by rw [hz]; exact hyz)]; rfl
            have HR := Lib.hid hlf
            rw [hz]
            clear hlf hzn htk hy htl hzq hz hyz
            go_wp2_with fail
            exact bodyPost_ret (v := .tuple #[.slice none 0 0, .int .i64 0, .bool false]) (by simp [results, Tryd.results30, go_sem]) rfl ⟨HP.out.1, (fun h1 => by rw [HR.out] at h1; cases h1), fun _ => ⟨_, _, rfl⟩⟩
        · obtain rfl : q = k := by omega
          have hgq : ¬ (q : Int) < q := by omega
          have hall : S.take q = S := List.take_of_length_le (by rw [HP.out.2.2.2.2.2.1]; exact Nat.le_refl _)
          rw [hall] at hz htl hzq
          have hze : Pe.end_ xs = z := by rw [HO.out.2.2.2.1, ← HP.out.2.2.2.2.1, hz]
          have hla2 : Pe.laid xs = decide (z ≤ n) := by rw [HO.out.2.2.2.2.1, ← HP.out.2.2.2.1, htl, hze, Bool.true_and]
          have hzl : z ≤ 500000000000 := by omega
          have HR := Lib.hid (And.intro hze hla2)
          rw [hall, hz]
          clear hze hla2 htl hzq hz hall
          by_cases hzn : (z : Int) ≤ n
          · go_wp2_with fail
            exact bodyPost_ret (v := .tuple #[.slice Av q cv, .int .i64 (z : Int), .bool true]) (by simp [results, Tryd.results30, go_sem]) rfl ⟨HP.out.1, (fun _ => ⟨_, by rw [HR.out.1], by rw [HO.out.2.2.2.2.2.1, hk]; exact HP.out.2.1⟩), fun h1 => by rw [HR.out.2] at h1; simp at h1; omega⟩
          · go_wp2_with fail
            exact bodyPost_ret (v := .tuple #[.slice Av q cv, .int .i64 (z : Int), .bool false]) (by simp [results, Tryd.results30, go_sem]) rfl ⟨HP.out.1, (fun h1 => by rw [HR.out.2] at h1; simp at h1; omega), fun _ => ⟨_, _, rfl⟩⟩
end Go.Proofs.YtlfajfmkljnodaaDoor
