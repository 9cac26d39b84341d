/- Joined of: PeFr PeR5 PeR6 PeR7 PeR8. -/
import Derived.Test.YtmpladnglfiejaaGreatDoorPF
import Derived.Test.YtmpladnglfiejaaGreatDoorPJ
import Derived.Test.YtmpladnglfiejaaGreatDoorJa
import Derived.Test.YtmpladnglfiejaaGreatDoorPK
import Derived.Test.YtmpladnglfiejaaGreatDoorJf
section
/- What a law knows of the image that it has made. -/
namespace Go.Proofs.YtmpladnglfiejaaGreatDoor
open Go.RowKit
set_option maxRecDepth 100000
set_option linter.unusedVariables false
set_option linter.unusedSimpArgs false
namespace Pe
theorem brought_sigs (s : Shape) : (brought s).sigs.length ≤ 8 := by simp only [brought, List.length_map, List.length_take]; omega
theorem read_err {S : Shape} {c : List UInt8} (h : Read S c) (ho : S.Ok) (h8 : S.sigs.length ≤ 8) : Pe.err c = 0 ∧ Pe.img c = S.img := by
  obtain ⟨h1, h2, h3⟩ := h.fine_ ho
  refine ⟨?_, h2⟩
  have hl := h.size
  have hw := S.write_small ho
  unfold Pe.err
  rw [if_neg (by omega), h1, if_pos rfl, h3, if_neg (by omega)]
end Pe
/-- The numbers of the image of a shape. -/
structure SN (S : Pe.Shape) (C : IV) : Prop where
  plus : C.plus = S.plus
  check : C.check = S.opt + 64
  dir : C.dir = S.table - 96
  headers : C.headers = S.headers
  table : C.table = if S.sigs = [] then 0 else S.from_
  length : C.length = if S.sigs = [] then 0 else (Pe.sigTable S.sigs).length
theorem ImgOwn.img {xs : List UInt8} {C : IV} {lo : Nat} {W : World} (h : ImgOwn xs C lo W) : C.plus = (Pe.img xs).plus ∧ C.check = (Pe.img xs).check ∧ C.dir = (Pe.img xs).dir ∧ C.headers = (Pe.img xs).headers ∧ C.table = (Pe.img xs).table ∧ C.length = (Pe.img xs).length := h.nums
theorem ImgOwn.sn {S : Pe.Shape} {xs : List UInt8} {C : IV} {lo : Nat} {W : World} (h : ImgOwn xs C lo W) (e : Pe.img xs = S.img) : SN S C := by
  obtain ⟨h1, h2, h3, h4, h5, h6⟩ := h.img
  rw [e] at h1 h2 h3 h4 h5 h6
  exact ⟨h1, h2, h3, h4, h5, h6⟩
theorem Sgs.rdL {w : World} {lo : Nat} {v : Value} {l : List (Value × List UInt8)} (h : Sgs w lo v l) : ∃ A c, v = .slice A l.length c ∧ RdL w w.heap.size A l.length c l := by
  obtain ⟨A, c, e, h1, h2, h3, h4⟩ := h.row.shape
  refine ⟨A, c, e, rfl, h1, h2, h4, fun v xs hm => ?_⟩
  obtain ⟨A', n', c', e', hr⟩ := (h.own (v, xs) hm).rd
  exact ⟨A', n', c', e', hr⟩
/-- Same, at two images that tell the same. -/
theorem same_own {xs ys : List UInt8} {C D : IV} {lo lo' : Nat} {w : World} (hC : ImgOwn xs C lo w) (hD : ImgOwn ys D lo' w) (he : Pe.err xs = 0) (hi : Pe.img xs = Pe.img ys) :
    Calls Tryz.prog 11 #[C.val, D.val] w fun e w' => e = .returned (.bool true) ∧ Below w.heap.size w w' := by
  obtain ⟨a1, a2, a3, a4, a5, a6⟩ := hC.img
  obtain ⟨b1, b2, b3, b4, b5, b6⟩ := hD.img
  have hr := Pe.right_of he
  have h1 := hr.many
  have h2 := hr.sigs
  have es : Pe.secs xs = Pe.secs ys := congrArg Pe.Img.secs hi
  have eg : Pe.sigs xs = Pe.sigs ys := congrArg Pe.Img.sigs hi
  rw [← hi] at b1 b2 b3 b4 b5 b6
  obtain ⟨A4, c4, e4, r4⟩ := hC.secs.rdS
  have hDs := hD.secs
  rw [← es] at hDs
  obtain ⟨B4, d4, f4, q4⟩ := hDs.rdS
  obtain ⟨l7, g7, k7⟩ := hC.sigs
  obtain ⟨m7, i7, j7⟩ := hD.sigs
  obtain ⟨A7, c7, e7, r7⟩ := g7.rdL
  obtain ⟨B7, d7, f7, q7⟩ := i7.rdL
  have hlen : m7.length = l7.length := by
    have := congrArg List.length (k7.trans (eg.trans j7.symm))
    simpa using this.symm
  rw [hlen] at f7 q7
  have hs8 : l7.length ≤ 8 := by
    have : (Pe.sigs xs).length = l7.length := by rw [← k7, List.length_map]
    omega
  obtain ⟨pl, ck, dr, hd, v4, tb, ln, v7⟩ := C
  obtain ⟨pl', ck', dr', hd', v4', tb', ln', v7'⟩ := D
  dsimp only at a1 a2 a3 a4 a5 a6 b1 b2 b3 b4 b5 b6 e4 f4 e7 f7
  subst e4 f4 e7 f7
  obtain rfl := b1.trans a1.symm
  obtain rfl := b2.trans a2.symm
  obtain rfl := b3.trans a3.symm
  obtain rfl := b4.trans a4.symm
  obtain rfl := b5.trans a5.symm
  obtain rfl := b6.trans a6.symm
  exact same_any _ _ _ _ _ _ _ _ _ _ _ _ _ _ _ _ (Pe.secs xs) l7 m7 w (by omega) (by omega) r4 q4 r7 q7 (k7.trans (eg.trans j7.symm))
theorem ImgOwn.later {xs : List UInt8} {C : IV} {lo : Nat} {w w' : World} (h : ImgOwn xs C lo w) (hb : Below w.heap.size w w') : ImgOwn xs C lo w' := by
  obtain ⟨l, hs, hl'⟩ := h.sigs
  exact ⟨h.nums, (h.secs.below hb (Nat.le_refl _)).mono (Nat.le_refl _) hb.size, l, hs.below hb, hl'⟩
end Go.Proofs.YtmpladnglfiejaaGreatDoor
end

section
/- The reference's reading: the sections (under way). -/
namespace Go.Proofs.YtmpladnglfiejaaGreatDoor
open Go.RowKit
set_option maxRecDepth 100000
set_option linter.unusedVariables false
set_option linter.unusedSimpArgs false
namespace Pe
theorem tiles_append : ∀ (a b : List (Nat × Nat)) (h : Nat), tiles h (a ++ b) = (tiles h a && tiles (h + sizes a) b)
  | [], b, h => by simp [tiles, sizes]
  | (o, z) :: a, b, h => by
    have e : sizes ((o, z) :: a) = z + sizes a := by unfold sizes; rw [List.map_cons, List.sum_cons]
    rw [List.cons_append, tiles, tiles, tiles_append a b (h + z), e, Nat.add_assoc, Bool.and_assoc]
theorem tiles_not {S : List (Nat × Nat)} {h q : Nat} {x : Nat × Nat} (hx : S[q]? = some x) (hn : x.1 ≠ h + sizes (S.take q)) : tiles h S = false := by
  obtain ⟨g1, g2⟩ := List.getElem?_eq_some_iff.1 hx
  obtain ⟨o, z⟩ := x
  have e : S = S.take q ++ (o, z) :: S.drop (q + 1) := by
    conv => lhs; rw [← List.take_append_drop q S, List.drop_eq_getElem_cons g1, g2]
  have e2 : tiles (h + sizes (S.take q)) ((o, z) :: S.drop (q + 1)) = false := by
    rw [tiles]
    have : (o == h + sizes (S.take q)) = false := by simpa using hn
    rw [this]; rfl
  rw [e, tiles_append]
  rw [e2, Bool.and_false]
end Pe
/-- What the reference's sections answers. -/
def SecsOutR (xs : List UInt8) (w : World) (e : Ending) (w' : World) : Prop :=
  Below w.heap.size w w' ∧ (Pe.laid xs = true → ∃ v, e = .returned (.tuple #[v, .int .i64 (Pe.end_ xs : Int), .bool true]) ∧ OwnC 59 2 w' w.heap.size w'.heap.size v (Pe.secs xs).length ((Pe.secs xs).flatMap secC)) ∧
    (Pe.laid xs = false → ∃ v z, e = .returned (.tuple #[v, z, .bool false]))
set_option maxHeartbeats 4000000 in
theorem sectionsR_any (A : Option Addr) (n c T m hd : Nat) (xs : List UInt8) (w : World) (h : Rd w w.heap.size A n c xs) (hn : n ≤ 16777216) (hT : Pe.table xs = T) (hm : Pe.many xs = m) (hH : Pe.headers xs = hd) (hTl : T + 40 * m ≤ n) (hM : m ≤ 96) (hhd : hd ≤ n) :
    Calls Tryz.prog 44 #[.slice A n c, .int .i64 (T : Int), .int .i64 (m : Int), .int .i64 (hd : Int)] w (SecsOutR xs w) := by
  have hl := h.len
  have H := Lib.hid (And.intro h (And.intro hT (And.intro hm hH)))
  clear h hT hm hH
  go_enter Tryz.func44, Tryz.ntmps44
  go_wp2_with fail
  go_loopw [11, 12, 13, 14] (fun v i _ _ wr => ∃ j : Nat, j ≤ m ∧ i = .int .i64 (j : Int) ∧ OwnC 59 2 wr w.heap.size wr.heap.size v (Pe.secsTo xs j).length ((Pe.secsTo xs j).flatMap secC) ∧ Below w.heap.size w wr) (fun _ i _ _ _ => m - (intOf i).toNat)
  case atStart => exact ⟨0, Nat.zero_le _, rfl, OwnC.nil_, Below.refl _ _⟩
  case round =>
    obtain ⟨j, hj, rfl, ho, hb⟩ := hrel
    have hsz := hb.size
    have hlenj := Pe.secsTo_len xs j
    by_cases hlt : j < m
    · have hlt' : (j : Int) < m := by omega
      obtain ⟨p, hp⟩ : ∃ p, T + 40 * j = p := ⟨_, rfl⟩
      have hpl : p + 40 ≤ n := by omega
      have hpi : (T : Int) + 40 * (j : Int) = (p : Int) := by omega
      obtain ⟨W1, hW1⟩ : ∃ W1, wr.alloc (.cells #[.int .i64 ((p : Int) + 16), .int .i64 4, .int .i64 ((p : Int) + 20), .int .i64 4] 39) = W1 := ⟨_, rfl⟩
      have hB1 : Blk W1 wr.heap.size 39 ([(p + 16, 4), (p + 20, 4)].flatMap pairC).toArray := by
        rw [← hW1]
        have h1 := Blk.new wr 39 #[.int .i64 ((p : Int) + 16), .int .i64 4, .int .i64 ((p : Int) + 20), .int .i64 4]
        simpa [pairC] using h1
      have hb1 : Below w.heap.size w W1 := by rw [← hW1]; exact hb.alloc hsz _
      have hbr1 : Below wr.heap.size wr W1 := by rw [← hW1]; exact (Below.refl _ _).alloc (Nat.le_refl _) _
      have hs1 : W1.heap.size = wr.heap.size + 1 := by rw [← hW1]; simp
      have hnum := numbersR_any A n c wr.heap.size 2 xs [(p + 16, 4), (p + 20, 4)] W1 ((H.out.1.below hb1).more hb1.size) (by omega) hB1 rfl (by omega) (by
        intro q hq
        simp only [List.mem_cons, List.not_mem_nil, or_false] at hq
        rcases hq with rfl | rfl
        · exact ⟨by dsimp only; omega, .inr (.inr rfl)⟩
        · exact ⟨by dsimp only; omega, .inr (.inr rfl)⟩)
      have hbi : ([(p + 16, 4), (p + 20, 4)].all fun p => Pe.inb xs p.1 p.2) = true := by simp [Pe.inb]; omega
      rw [hbi] at hnum
      have hsec : Pe.secAt xs j = if Pe.at_ xs (p + 16) 4 = 0 then none else some (Pe.at_ xs (p + 20) 4, Pe.at_ xs (p + 16) 4) := by
        unfold Pe.secAt
        rw [H.out.2.1, hp]
      have HI := Lib.hid (And.intro ho (And.intro hb (And.intro hb1 (And.intro hbr1 (And.intro hnum hsec)))))
      clear ho hb hb1 hbr1 hnum hsec hB1 hbi hp
      go_wp2_with fail
      refine HI.out.2.2.2.2.1.mono ?_
      rintro e w1 ⟨hbn, v1, rfl, hv1⟩
      clear hW1
      have hb1 : Below w.heap.size w w1 := HI.out.2.2.1.trans (hbn.mono HI.out.2.2.1.size)
      have hbr : Below wr.heap.size wr w1 := HI.out.2.2.2.1.trans (hbn.mono (by omega))
      have hown := hv1 (by first | rfl | trivial)
      obtain ⟨gx, capx, ex, _, _⟩ := hown.1.form (by omega)
      have hgx := hown.2 gx (by rw [ex]; rfl)
      have hgx0 : W1.heap.size ≤ gx := (hown.1.lt gx (by rw [ex]; rfl)).1
      subst ex
      obtain ⟨a, ha⟩ : ∃ N, Pe.at_ xs (p + 20) 4 = N := ⟨_, rfl⟩
      obtain ⟨bz, hbz⟩ : ∃ N, Pe.at_ xs (p + 16) 4 = N := ⟨_, rfl⟩
      have hal : a < 4294967296 := by rw [← ha]; exact Pe.at_lt4 _ _
      have hbzl : bz < 4294967296 := by rw [← hbz]; exact Pe.at_lt4 _ _
      have k0 : w1.cell? ⟨gx, 0, none⟩ = some (.int .i64 (bz : Int)) := (hown.1.cellAt 0 (by omega)).trans (by rw [← hbz]; rfl)
      have k1 : w1.cell? ⟨gx, 1, none⟩ = some (.int .i64 (a : Int)) := (hown.1.cellAt 1 (by omega)).trans (by rw [← ha]; rfl)
      have hsec := HI.out.2.2.2.2.2
      rw [ha, hbz] at hsec
      have HJ := Lib.hid (And.intro hb1 (And.intro hbr hsec))
      have hs1' := hb1.size
      have hs2' := hbr.size
      clear hb1 hbr hsec hbn hown hv1 ha hbz
      have hwa : IntKind.u32.wrap (a : Int) = (a : Int) := by simp only [IntKind.wrap, IntKind.bits, IntKind.signed]; simp; omega
      have hwb : IntKind.u32.wrap (bz : Int) = (bz : Int) := by simp only [IntKind.wrap, IntKind.bits, IntKind.signed]; simp; omega
      have hown1 := (HI.out.1.below HJ.out.2.1 (Nat.le_refl _)).mono (Nat.le_refl _) hs2'
      have HO := Lib.hid hown1
      clear hown1
      by_cases h0 : bz = 0
      · subst h0
        go_wp2_with fail
        go_roundw
        case rel => exact ⟨j + 1, by omega, by go_num, (by rw [Pe.secsTo_succ, HJ.out.2.2]; simpa using HO.out), HJ.out.1⟩
        case measure => simp [intOf]; omega
      · have h0' : (0 : Int) < bz := by omega
        go_upto_region 9 with fail
        go_region_held3 (fun w' => w'.cell? ⟨gx, 0, none⟩ = some (.int .i64 (bz : Int)) ∧ w'.cell? ⟨gx, 1, none⟩ = some (.int .i64 (a : Int))) (go_keep)
          (first
            | ((refine step_appC (by rfl) (.tmp 47) (.tmp 57) 27 (by rfl) 59 _ 2 8 sec_info Tryz.underlying27 (by rfl) (by omega) w.heap.size w1.heap.size _ (Pe.secsTo xs j).length ((Pe.secsTo xs j).flatMap secC) (by rfl) (by exact (HO.out.alloc (Nat.le_refl _) (.cells #[.int .u32 (a : Int), .int .u32 (bz : Int)] 59)).keep fun _ _ _ => rfl) (by simp; omega) _ _ 1 1 [.int .u32 (a : Int), .int .u32 (bz : Int)] (by rfl) (by exact reads_twoS w1 59 (.int .u32 (a : Int)) (.int .u32 (bz : Int)) w1.heap.size rfl) (by simp [Value.oneCell']) (by omega) (by omega) ?_); intro v2 w2 ho2 hg2 hat2 hb2; have hne : some gx ≠ u11.ownBlock := (fun e => by have h1 := HI.out.1.2 gx e.symm; omega); have hbk : w2.heap[gx]? = w1.heap[gx]? := (hg2.block gx (by simp; omega) hne).trans (Below.heap_alloc w1 _ gx hgx); have z0 : w2.cell? ⟨gx, 0, none⟩ = some (.int .i64 (bz : Int)) := (World.cell?_of_block (a := ⟨gx, 0, none⟩) hbk).trans k0; have z1 : w2.cell? ⟨gx, 1, none⟩ = some (.int .i64 (a : Int)) := (World.cell?_of_block (a := ⟨gx, 1, none⟩) hbk).trans k1; have hbw2 : Below w.heap.size w w2 := (HJ.out.1.alloc (by omega) (.cells #[.int .u32 (a : Int), .int .u32 (bz : Int)] 59)).drew.trans hb2; have HA := Lib.hid (And.intro ho2 hbw2); clear ho2 hg2 hat2 hb2 hne hbk hbw2)
            | fail)
        go_wp2_with fail
        go_roundw
        case rel => exact ⟨j + 1, by omega, by go_num, (by rw [Pe.secsTo_succ, HJ.out.2.2, if_neg h0]; simp only [List.flatMap_append, List.length_append]; exact HA.out.1), HA.out.2⟩
        case measure => simp [intOf]; omega
    · obtain rfl : j = m := by omega
      have hge : ¬ (j : Int) < j := by omega
      have hst : Pe.secsTo xs j = Pe.secs xs := by unfold Pe.secsTo Pe.secs; rw [H.out.2.2.1]
      rw [hst] at ho hlenj
      have hsm := Pe.secs_small xs
      have hpos := Pe.secs_pos xs
      obtain ⟨Ss, hSs⟩ : ∃ S, Pe.secs xs = S := ⟨_, rfl⟩
      have hend : Pe.end_ xs = hd + Pe.sizes Ss := by unfold Pe.end_; rw [H.out.2.2.2, hSs]
      have hlaid : Pe.laid xs = (Pe.tiles hd (Pe.riseS Ss) && decide (Pe.end_ xs ≤ n)) := by unfold Pe.laid; rw [H.out.2.2.2, hSs, hl]
      rw [hSs] at ho hlenj hsm hpos
      obtain ⟨Av, cv, ev, hrd⟩ := ho.rdS
      obtain ⟨k, hk⟩ : ∃ k, Ss.length = k := ⟨_, rfl⟩
      rw [hk] at ho ev hrd hlenj
      subst ev
      have hri := riseR_any Av k cv Ss wr hrd (by omega)
      have HO := Lib.hid (And.intro ho (And.intro hb (And.intro hri (And.intro hend (And.intro hlaid (And.intro hSs (And.intro hsm hpos)))))))
      clear ho hb hri hend hlaid hSs hsm hpos hrd hst
      go_wp2_with fail
      refine HO.out.2.2.1.mono ?_
      rintro e w1 ⟨hb1, v1, rfl, S, hperm, hrise, hown⟩
      obtain ⟨Ar, cr, er, hrr⟩ := hown.rdS
      subst er
      have hti : Pe.tiles hd S = Pe.tiles hd (Pe.riseS Ss) := Pe.tiles_rise hd hperm hrise (fun x hx => HO.out.2.2.2.2.2.2.2 x hx)
      have hsz2 : Pe.sizes S = Pe.sizes Ss := Pe.perm_sizes hperm
      have hsl : S.length = k := hperm.length_eq.trans hk
      have hbw1 : Below w.heap.size w w1 := HO.out.2.1.trans (hb1.mono HO.out.2.1.size)
      have how : OwnC 59 2 w1 w.heap.size w1.heap.size (.slice Av k cv) k (Ss.flatMap secC) := (HO.out.1.below hb1 (Nat.le_refl _)).mono (Nat.le_refl _) hb1.size
      have hsmS : ∀ x ∈ S, x.1 < 4294967296 ∧ x.2 < 4294967296 := fun x hx => HO.out.2.2.2.2.2.2.1 x (hperm.mem_iff.1 hx)
      have hszl : ∀ q, Pe.sizes (S.take q) ≤ 96 * 4294967296 := fun q => by
        have h1 := Pe.sizes_le (m := 4294967296) (S.take q) fun x hx => Nat.le_of_lt (hsmS x (List.mem_of_mem_take hx)).2
        have h2 : (S.take q).length ≤ 96 := by rw [List.length_take]; omega
        exact Nat.le_trans h1 (Nat.mul_le_mul_right 4294967296 h2)
      have HP := Lib.hid (And.intro hbw1 (And.intro how (And.intro hrr (And.intro hti (And.intro hsz2 (And.intro hsl (And.intro hsmS hszl)))))))
      clear hbw1 how hrr hti hsz2 hsl hsmS hszl hb1 hown hperm hrise
      go_wp2_with fail
      go_loopw [15, 17] (fun v i wq => ∃ q : Nat, q ≤ k ∧ i = .int .i64 (q : Int) ∧ v = .int .i64 ((hd + Pe.sizes (S.take q) : Nat) : Int) ∧ Pe.tiles hd (S.take q) = true ∧ wq = w1) (fun _ i _ => k - (intOf i).toNat)
      case atStart => exact ⟨0, Nat.zero_le _, rfl, by simp [Pe.sizes], rfl, rfl⟩
      case round =>
        obtain ⟨q, hq, rfl, rfl, htl, rfl⟩ := hrel
        have hzq := HP.out.2.2.2.2.2.2.2 q
        obtain ⟨z, hz⟩ : ∃ z, hd + Pe.sizes (S.take q) = z := ⟨_, rfl⟩
        by_cases hlq : q < k
        · have hlq' : (q : Int) < k := by omega
          obtain ⟨bb, oo, ⟨y1, y2⟩, rfl, hbB, hy, t1, t2⟩ := HP.out.2.2.1.get hlq
          dsimp only at t1 t2
          have hys := HP.out.2.2.2.2.2.2.1 _ (List.mem_of_getElem? hy)
          dsimp only at hys
          have htk : S.take (q + 1) = S.take q ++ [(y1, y2)] := take_snoc hy
          have hzl : z ≤ 500000000000 := by omega
          have hzn : hd + Pe.sizes (S.take (q + 1)) = z + y2 := by rw [htk, Pe.sizes_snoc, ← hz, Nat.add_assoc]
          by_cases hyz : y1 = z
          · have htn : Pe.tiles hd (S.take (q + 1)) = true := by rw [htk, Pe.tiles_snoc, htl, hz]; simp [hyz]
            have hyb : ((y1 : Int) != z) = false := by simp; omega
            have HR := Lib.hid (And.intro htn hzn)
            rw [hz]
            clear htn hzn htk hy htl hzq hz hyz
            go_wp2_with fail
            go_roundw
            case rel => exact ⟨q + 1, by omega, by go_num, by rw [HR.out.2]; go_num, HR.out.1, by first | rfl | trivial⟩
            case measure => simp [intOf]; omega
          · have hyb : ((y1 : Int) != z) = true := by simp; omega
            have hlf : Pe.laid xs = false := by
              rw [HO.out.2.2.2.2.1, ← HP.out.2.2.2.1, Pe.tiles_not hy (by rw [hz]; exact hyz)]; rfl
            have HR := Lib.hid hlf
            rw [hz]
            clear hlf hzn htk hy htl hzq hz hyz
            go_wp2_with fail
            exact bodyPost_ret (v := .tuple #[.slice none 0 0, .int .i64 0, .bool false]) (by simp [results, Tryz.results44, go_sem]) rfl ⟨HP.out.1, (fun h1 => by rw [HR.out] at h1; cases h1), fun _ => ⟨_, _, rfl⟩⟩
        · obtain rfl : q = k := by omega
          have hgq : ¬ (q : Int) < q := by omega
          have hall : S.take q = S := List.take_of_length_le (by rw [HP.out.2.2.2.2.2.1]; exact Nat.le_refl _)
          rw [hall] at hz htl hzq
          have hze : Pe.end_ xs = z := by rw [HO.out.2.2.2.1, ← HP.out.2.2.2.2.1, hz]
          have hla2 : Pe.laid xs = decide (z ≤ n) := by rw [HO.out.2.2.2.2.1, ← HP.out.2.2.2.1, htl, hze, Bool.true_and]
          have hzl : z ≤ 500000000000 := by omega
          have HR := Lib.hid (And.intro hze hla2)
          rw [hall, hz]
          clear hze hla2 htl hzq hz hall
          by_cases hzn : (z : Int) ≤ n
          · go_wp2_with fail
            exact bodyPost_ret (v := .tuple #[.slice Av q cv, .int .i64 (z : Int), .bool true]) (by simp [results, Tryz.results44, go_sem]) rfl ⟨HP.out.1, (fun _ => ⟨_, by rw [HR.out.1], by rw [HO.out.2.2.2.2.2.1, hk]; exact HP.out.2.1⟩), fun h1 => by rw [HR.out.2] at h1; simp at h1; omega⟩
          · go_wp2_with fail
            exact bodyPost_ret (v := .tuple #[.slice Av q cv, .int .i64 (z : Int), .bool false]) (by simp [results, Tryz.results44, go_sem]) rfl ⟨HP.out.1, (fun h1 => by rw [HR.out.2] at h1; simp at h1; omega), fun _ => ⟨_, _, rfl⟩⟩
end Go.Proofs.YtmpladnglfiejaaGreatDoor
end

section
/- What the reference's Parse answers; Same, at the program's image and the reference's. -/
namespace Go.Proofs.YtmpladnglfiejaaGreatDoor
open Go.RowKit
set_option maxRecDepth 100000
set_option linter.unusedVariables false
set_option linter.unusedSimpArgs false
/-- An image that the reference tells, in memory. -/
structure ImgRd (xs : List UInt8) (C : IV) (lo : Nat) (W : World) : Prop where
  nums : C.plus = Pe.plus xs ∧ C.check = Pe.opt xs + 64 ∧ C.dir = Pe.dirs xs + 32 ∧ C.headers = Pe.headers xs ∧ C.table = (if Pe.bare xs then 0 else Pe.from_ xs) ∧ C.length = (if Pe.bare xs then 0 else Pe.length xs)
  secs : OwnC 59 2 W lo W.heap.size C.secs (Pe.secs xs).length ((Pe.secs xs).flatMap secC)
  sigs : ∃ l, XS W lo C.sigs l ∧ l.map (·.2) = Pe.sigs xs
theorem ImgRd.img {xs : List UInt8} {C : IV} {lo : Nat} {W : World} (h : ImgRd xs C lo W) : C.plus = (Pe.img xs).plus ∧ C.check = (Pe.img xs).check ∧ C.dir = (Pe.img xs).dir ∧ C.headers = (Pe.img xs).headers ∧ C.table = (Pe.img xs).table ∧ C.length = (Pe.img xs).length := h.nums
theorem ImgRd.later {xs : List UInt8} {C : IV} {lo : Nat} {w w' : World} (h : ImgRd xs C lo w) (hb : Below w.heap.size w w') : ImgRd xs C lo w' := by
  obtain ⟨l, hs, hl'⟩ := h.sigs
  exact ⟨h.nums, (h.secs.below hb (Nat.le_refl _)).mono (Nat.le_refl _) hb.size, l, hs.below hb, hl'⟩
/-- What the reference's Parse answers. -/
def RefOut (xs : List UInt8) (w : World) (e : Ending) (w' : World) : Prop :=
  Below w.heap.size w w' ∧ ∃ C : IV, e = .returned (.tuple #[C.val, .int .i64 (Pe.err xs : Int)]) ∧ C.One ∧ (Pe.err xs ≠ 0 → C = IV.zero) ∧ (Pe.err xs = 0 → ImgRd xs C w.heap.size w')
/-- Same, at two images that tell the same. -/
theorem same_rd {xs ys : List UInt8} {C D : IV} {lo lo' : Nat} {w : World} (hC : ImgOwn xs C lo w) (hD : ImgRd ys D lo' w) (he : Pe.err xs = 0) (hi : Pe.img xs = Pe.img ys) :
    Calls Tryz.prog 11 #[C.val, D.val] w fun e w' => e = .returned (.bool true) ∧ Below w.heap.size w w' := by
  obtain ⟨a1, a2, a3, a4, a5, a6⟩ := hC.img
  obtain ⟨b1, b2, b3, b4, b5, b6⟩ := hD.img
  have hr := Pe.right_of he
  have h1 := hr.many
  have h2 := hr.sigs
  have es : Pe.secs xs = Pe.secs ys := congrArg Pe.Img.secs hi
  have eg : Pe.sigs xs = Pe.sigs ys := congrArg Pe.Img.sigs hi
  rw [← hi] at b1 b2 b3 b4 b5 b6
  obtain ⟨A4, c4, e4, r4⟩ := hC.secs.rdS
  have hDs := hD.secs
  rw [← es] at hDs
  obtain ⟨B4, d4, f4, q4⟩ := hDs.rdS
  obtain ⟨l7, g7, k7⟩ := hC.sigs
  obtain ⟨m7, i7, j7⟩ := hD.sigs
  obtain ⟨A7, c7, e7, r7⟩ := g7.rdL
  obtain ⟨B7, d7, f7, q7⟩ := i7.rdl
  have hlen : m7.length = l7.length := by
    have := congrArg List.length (k7.trans (eg.trans j7.symm))
    simpa using this.symm
  rw [hlen] at f7 q7
  have hs8 : l7.length ≤ 8 := by
    have : (Pe.sigs xs).length = l7.length := by rw [← k7, List.length_map]
    omega
  obtain ⟨pl, ck, dr, hd, v4, tb, ln, v7⟩ := C
  obtain ⟨pl', ck', dr', hd', v4', tb', ln', v7'⟩ := D
  dsimp only at a1 a2 a3 a4 a5 a6 b1 b2 b3 b4 b5 b6 e4 f4 e7 f7
  subst e4 f4 e7 f7
  obtain rfl := b1.trans a1.symm
  obtain rfl := b2.trans a2.symm
  obtain rfl := b3.trans a3.symm
  obtain rfl := b4.trans a4.symm
  obtain rfl := b5.trans a5.symm
  obtain rfl := b6.trans a6.symm
  exact same_any _ _ _ _ _ _ _ _ _ _ _ _ _ _ _ _ (Pe.secs xs) l7 m7 w (by omega) (by omega) r4 q4 r7 q7 (k7.trans (eg.trans j7.symm))
end Go.Proofs.YtmpladnglfiejaaGreatDoor
end

section
/- The end of the reference's Parse: the rows. -/
namespace Go.Proofs.YtmpladnglfiejaaGreatDoor
open Go.RowKit
set_option maxRecDepth 100000
set_option linter.unusedVariables false
set_option linter.unusedSimpArgs false
noncomputable def rTail20 : Code := tailOf 20 (codeOf Tryz.f23)
/-- What the reference's Parse knows behind the sections. -/
structure RfK (xs : List UInt8) (n fr ln : Nat) (C : IV) : Prop where
  len : xs.length = n
  n_ : n ≤ 16777216
  head : Pe.head xs = true
  laid : Pe.laid xs = true
  tabled : Pe.tabled xs = true
  bare : Pe.bare xs = false
  from_ : Pe.from_ xs = fr
  length_ : Pe.length xs = ln
  nums : C.plus = Pe.plus xs ∧ C.check = Pe.opt xs + 64 ∧ C.dir = Pe.dirs xs + 32 ∧ C.headers = Pe.headers xs ∧ C.table = 0 ∧ C.length = 0
  frl : fr ≤ n
  lnl : ln ≤ n
theorem RfK.err {xs : List UInt8} {n fr ln : Nat} {C : IV} (k : RfK xs n fr ln C) : (Pe.rows xs fr = none → Pe.err xs = 9) ∧ (∀ l, Pe.rows xs fr = some l → (8 < l.length → Pe.err xs = 10) ∧ (¬ 8 < l.length → Pe.err xs = 0) ∧ Pe.sigs xs = l) := by
  have hf : Pe.fine xs = (Pe.rows xs fr).isSome := by unfold Pe.fine Pe.signed; rw [k.head, k.laid, k.tabled, k.bare, k.from_]; simp
  have hs : ∀ l, Pe.rows xs fr = some l → Pe.sigs xs = l := fun l h => by unfold Pe.sigs; rw [k.bare, k.from_, h]; rfl
  have hn := k.n_
  have hl := k.len
  refine ⟨fun h => ?_, fun l h => ⟨fun h8 => ?_, fun h8 => ?_, hs l h⟩⟩
  · unfold Pe.err
    rw [if_neg (by omega), hf, h]; rfl
  · unfold Pe.err
    rw [if_neg (by omega), hf, h, hs l h, if_pos (by rfl), if_pos h8]
  · unfold Pe.err
    rw [if_neg (by omega), hf, h, hs l h, if_pos (by rfl), if_neg h8]
theorem XS.keepI {w w' : World} {lo : Nat} {v : Value} {l : List (Value × List UInt8)} (h : XS w lo v l) (hs : w.heap.size ≤ w'.heap.size) (hk : ∀ (k : Nat) (cs : Array Value) (e : TypeId) (fr : Nat × Nat), w.heap[k]? = some (.cells cs e fr) → e ≠ 30 → w'.heap[k]? = w.heap[k]?) : XS w' lo v l :=
  ⟨(h.1.keepCells fun k cur fr _ _ h2 => hk k cur _ fr h2 (by decide)).mono (Nat.le_refl _) hs, fun p hp => (h.2 p hp).keep hs fun g cs fr hg => hk g cs _ fr hg (by decide)⟩
theorem bi_other {w : World} {g k : Nat} {C : IV} {cs : Array Value} {e : TypeId} {fr : Nat × Nat} (h : Bi w g C) (h1 : w.heap[k]? = some (.cells cs e fr)) (h2 : e ≠ 30) : k ≠ g := by
  rintro rfl
  unfold Bi Blk at h
  rw [h] at h1
  injection h1 with h1
  injection h1 with h4 h5
  exact h2 h5.symm
set_option maxHeartbeats 4000000 in
theorem ref_tail20 {w : World} {n c zb ib gy cy fr ln : Nat} {A : Option Addr} {xs : List UInt8} {C : IV} (k : RfK xs n fr ln C) (hr : Rd w w.heap.size A n c xs) (hone : C.One) (hsg : C.sigs = .slice none 0 0) (w6 : World) (hb6 : Below w.heap.size w w6)
    (hR : Bi w6 w.heap.size IV.zero) (hZ : Bi w6 zb IV.zero) (hI : Bi w6 ib C) (hne : w.heap.size ≠ zb ∧ w.heap.size ≠ ib ∧ zb ≠ ib ∧ w.heap.size ≤ zb ∧ w.heap.size ≤ ib)
    (hgy : w.heap.size ≤ gy ∧ gy < w6.heap.size ∧ gy ≠ ib) (q1 : w6.cell? ⟨gy, 1, none⟩ = some (.int .i64 (fr : Int))) (q2 : w6.cell? ⟨gy, 2, none⟩ = some (.int .i64 (ln : Int)))
    (hS : OwnC 59 2 w6 w.heap.size w6.heap.size C.secs (Pe.secs xs).length ((Pe.secs xs).flatMap secC)) (u1 u3 u5 u6 u7 u8 u10 u12 u13 u14 u15 u16 u17 u18 u19 u20 u21 u22 u23 u24 u25 u26 u27 u28 u29 u30 u31 u32 u33 u34 u35 u36 u37 u38 u39 u40 u41 u42 u43 u44 u45 u46 u47 u48 u49 u50 u51 u52 u53 u54 u55 u56 u57 u58 u59 u60 u61 u62 u63 u64 u65 u66 u67 u68 u69 u70 u71 u72 u73 u74 u75 u76 u77 u78 u79 u80 u81 u82 u83 u84 u85 u86 u87 u88 u89 u90 u91 u92 u93 u94 u95 u96 u97 u98 u99 u100 u101 u102 u103 u104 u105 u106 u107 u108 u109 u110 u111 u112 u113 u114 u115 u116 u117 u118 u119 u120 u121 u122 u123 u124 u125 u126 u127 u128 u129 u130 u131 u132 u133 u134 u135 u136 u137 u138 u139 u140 u141 u142 u143 u144 u145 u146 u147 u148 u149 u150 u151 u152 u153 u154 u155 u156 u157 u158 u159 u160 u161 u162 u163 u164 u165 u166 u167 u168 u169 u170 u171 u172 u173 u174 u175 u176 u177 u178 u179 u180 u181 u182 u183 u184 u185 u186 u187 u188 u189 u190 u191 u192 u193 u194 u195 u196 u197 u198 u199 u200 u201 u202 u203 u204 u205 u206 u207 u208 u209 u210 u211 u212 u213 u214 u215 u216 u217 u218 u219 u220 u221 u222 u223 u224 u225 u226 u227 u228 u229 u230 u231 u232 u233 u234 u235 u236 u237 u238 u239 u240 u241 u242 u243 u244 u245 u246 u247 u248 u249 u250 u251 u252 u253 u254 u255 u256 u257 u258 u259 : Value) :
    rTail20.wp Tryz.prog (bodyPost Tryz.prog Tryz.f23 (RefOut xs w)) { tmps := (Value.slice A n c :: u1 :: Value.pointer (some ⟨w.heap.size, 0, none⟩) :: u3 :: Value.pointer (some ⟨zb, 0, none⟩) :: u5 :: u6 :: u7 :: u8 :: Value.pointer (some ⟨ib, 0, none⟩) :: u10 :: Value.slice (some ⟨gy, 0, none⟩) 3 cy :: u12 :: u13 :: u14 :: u15 :: u16 :: u17 :: u18 :: u19 :: u20 :: u21 :: u22 :: u23 :: u24 :: u25 :: u26 :: u27 :: u28 :: u29 :: u30 :: u31 :: u32 :: u33 :: u34 :: u35 :: u36 :: u37 :: u38 :: u39 :: u40 :: u41 :: u42 :: u43 :: u44 :: u45 :: u46 :: u47 :: u48 :: u49 :: u50 :: u51 :: u52 :: u53 :: u54 :: u55 :: u56 :: u57 :: u58 :: u59 :: u60 :: u61 :: u62 :: u63 :: u64 :: u65 :: u66 :: u67 :: u68 :: u69 :: u70 :: u71 :: u72 :: u73 :: u74 :: u75 :: u76 :: u77 :: u78 :: u79 :: u80 :: u81 :: u82 :: u83 :: u84 :: u85 :: u86 :: u87 :: u88 :: u89 :: u90 :: u91 :: u92 :: u93 :: u94 :: u95 :: u96 :: u97 :: u98 :: u99 :: u100 :: u101 :: u102 :: u103 :: u104 :: u105 :: u106 :: u107 :: u108 :: u109 :: u110 :: u111 :: u112 :: u113 :: u114 :: u115 :: u116 :: u117 :: u118 :: u119 :: u120 :: u121 :: u122 :: u123 :: u124 :: u125 :: u126 :: u127 :: u128 :: u129 :: u130 :: u131 :: u132 :: u133 :: u134 :: u135 :: u136 :: u137 :: u138 :: u139 :: u140 :: u141 :: u142 :: u143 :: u144 :: u145 :: u146 :: u147 :: u148 :: u149 :: u150 :: u151 :: u152 :: u153 :: u154 :: u155 :: u156 :: u157 :: u158 :: u159 :: u160 :: u161 :: u162 :: u163 :: u164 :: u165 :: u166 :: u167 :: u168 :: u169 :: u170 :: u171 :: u172 :: u173 :: u174 :: u175 :: u176 :: u177 :: u178 :: u179 :: u180 :: u181 :: u182 :: u183 :: u184 :: u185 :: u186 :: u187 :: u188 :: u189 :: u190 :: u191 :: u192 :: u193 :: u194 :: u195 :: u196 :: u197 :: u198 :: u199 :: u200 :: u201 :: u202 :: u203 :: u204 :: u205 :: u206 :: u207 :: u208 :: u209 :: u210 :: u211 :: u212 :: u213 :: u214 :: u215 :: u216 :: u217 :: u218 :: u219 :: u220 :: u221 :: u222 :: u223 :: u224 :: u225 :: u226 :: u227 :: u228 :: u229 :: u230 :: u231 :: u232 :: u233 :: u234 :: u235 :: u236 :: u237 :: u238 :: u239 :: u240 :: u241 :: u242 :: u243 :: u244 :: u245 :: u246 :: u247 :: u248 :: u249 :: u250 :: u251 :: u252 :: u253 :: u254 :: u255 :: u256 :: u257 :: u258 :: u259 :: []).toArray, defers := [] } w6 := by
  generalize hQ : bodyPost Tryz.prog Tryz.f23 (RefOut xs w) = Q
  unfold rTail20 codeOf
  simp only [Tryz.f23, tailOf, Option.getD_some]
  subst hQ
  have hrl := hR.lt
  have hzl := hZ.lt
  have hil := hI.lt
  have hrows := rowsR_any A n c fr xs w6 ((hr.below hb6).more hb6.size) k.n_ k.frl
  have herr := k.err
  have hsz6 := hb6.size
  have H := Lib.hid (And.intro k (And.intro hr (And.intro hone (And.intro hsg (And.intro hb6 (And.intro hR (And.intro hZ (And.intro hI (And.intro hS (And.intro hrows herr))))))))))
  clear k hr hone hsg hb6 hR hZ hI hS hrows herr
  go_wp2_with fail
  refine H.out.2.2.2.2.2.2.2.2.2.1.mono ?_
  rintro e w7 ⟨hb7, h9, h10, h0⟩
  have hZ7 := H.out.2.2.2.2.2.2.1.below hb7 hzl
  have hR7 := H.out.2.2.2.2.2.1.below hb7 hrl
  have hbw7 := H.out.2.2.2.2.1.trans (hb7.mono hsz6)
  cases hrw : Pe.rows xs fr with
  | none =>
    obtain rfl := h9 hrw
    have he := H.out.2.2.2.2.2.2.2.2.2.2.1 hrw
    have HE := Lib.hid (And.intro he (And.intro hZ7 (And.intro hR7 hbw7)))
    clear h9 h10 h0 hrw he hZ7 hR7 hbw7 hb7 q1 q2
    go_wp2_with (first
      | ((with_reducible refine at_load_img ?_); refine wpList_load_img rfl _ rfl zb IV.zero rfl HE.out.2.1 ?_)
      | ((with_reducible refine at_store_img ?_); refine wpList_store_img rfl _ _ rfl w.heap.size IV.zero IV.zero rfl rfl HE.out.2.2.1 IV.zero_one ?_; intro wz hBz hgz)
      | fail)
    refine bodyPost_ret (results_cellTmp Tryz.results23 _ _ _ _ _ rfl (load_img hBz)) rfl ⟨HE.out.2.2.2.grown hgz HE.out.2.2.2.size (fun j e => by cases e; exact Nat.le_refl _), IV.zero, ?_, IV.zero_one, fun _ => rfl, fun h => absurd (HE.out.1.symm.trans h) (by decide)⟩
    rw [HE.out.1]; rfl
  | some l =>
    by_cases h8 : 8 < l.length
    · obtain rfl := h10 l hrw h8
      have he := (H.out.2.2.2.2.2.2.2.2.2.2.2 l hrw).1 h8
      have HE := Lib.hid (And.intro he (And.intro hZ7 (And.intro hR7 hbw7)))
      clear h9 h10 h0 hrw he hZ7 hR7 hbw7 hb7 q1 q2 h8
      go_wp2_with (first
        | ((with_reducible refine at_load_img ?_); refine wpList_load_img rfl _ rfl zb IV.zero rfl HE.out.2.1 ?_)
        | ((with_reducible refine at_store_img ?_); refine wpList_store_img rfl _ _ rfl w.heap.size IV.zero IV.zero rfl rfl HE.out.2.2.1 IV.zero_one ?_; intro wz hBz hgz)
        | fail)
      refine bodyPost_ret (results_cellTmp Tryz.results23 _ _ _ _ _ rfl (load_img hBz)) rfl ⟨HE.out.2.2.2.grown hgz HE.out.2.2.2.size (fun j e => by cases e; exact Nat.le_refl _), IV.zero, ?_, IV.zero_one, fun _ => rfl, fun h => absurd (HE.out.1.symm.trans h) (by decide)⟩
      rw [HE.out.1]; rfl
    · obtain ⟨v, ls, rfl, hX, hls⟩ := h0 l hrw h8
      obtain ⟨_, he0, hsg⟩ := H.out.2.2.2.2.2.2.2.2.2.2.2 l hrw
      have he := he0 h8
      obtain ⟨Av, cv, ev, _⟩ := hX.rdl
      have hI7 := H.out.2.2.2.2.2.2.2.1.below hb7 hil
      have hs7 := hb7.size
      have q1' := (hb7.cell (p := ⟨gy, 1, none⟩) hgy.2.1).trans q1
      have q2' := (hb7.cell (p := ⟨gy, 2, none⟩) hgy.2.1).trans q2
      have hfrl := H.out.1.frl
      have hlnl := H.out.1.lnl
      have hn := H.out.1.n_
      have hwf : IntKind.u32.wrap (fr : Int) = (fr : Int) := by simp only [IntKind.wrap, IntKind.bits, IntKind.signed]; simp; omega
      have hwl : IntKind.u32.wrap (ln : Int) = (ln : Int) := by simp only [IntKind.wrap, IntKind.bits, IntKind.signed]; simp; omega
      obtain ⟨w8, hw8⟩ : ∃ x, w7.setCell ⟨ib, 5, none⟩ (.int .u32 (fr : Int)) = x := ⟨_, rfl⟩
      obtain ⟨w9, hw9⟩ : ∃ x, w8.setCell ⟨ib, 6, none⟩ (.int .u32 (ln : Int)) = x := ⟨_, rfl⟩
      obtain ⟨wa, hwa⟩ : ∃ x, w9.setCell ⟨ib, 7, none⟩ v = x := ⟨_, rfl⟩
      have hI8 : Bi w8 ib { C with table := fr } := by rw [← hw8]; exact hI7.set_ 5 _
      have hI9 : Bi w9 ib { C with table := fr, length := ln } := by rw [← hw9]; exact hI8.set_ 6 _
      have hIa : Bi wa ib { C with table := fr, length := ln, sigs := v } := by rw [← hwa]; exact hI9.set_ 7 _
      have e8 : ∀ k, k ≠ ib → w8.heap[k]? = w7.heap[k]? := fun k hk => by rw [← hw8]; exact Below.heap_setCell _ _ _ k hk
      have e9 : ∀ k, k ≠ ib → w9.heap[k]? = w7.heap[k]? := fun k hk => by rw [← hw9]; exact (Below.heap_setCell _ _ _ k hk).trans (e8 k hk)
      have ea : ∀ k, k ≠ ib → wa.heap[k]? = w7.heap[k]? := fun k hk => by rw [← hwa]; exact (Below.heap_setCell _ _ _ k hk).trans (e9 k hk)
      have q28 : w8.cell? ⟨gy, 2, none⟩ = some (.int .i64 (ln : Int)) := (World.cell?_of_block (a := ⟨gy, 2, none⟩) (e8 gy hgy.2.2)).trans q2'
      have d5 : w7.cell? ⟨ib, 5, none⟩ = some (.int .u32 (C.table : Int)) := hI7.cell 5
      have d6 : w8.cell? ⟨ib, 6, none⟩ = some (.int .u32 (C.length : Int)) := hI8.cell 6
      have d7 : w9.cell? ⟨ib, 7, none⟩ = some C.sigs := hI9.cell 7
      have g5 := hI7.frozen 5
      have g6 := hI8.frozen 6
      have g7 := hI9.frozen 7
      have sza : wa.heap.size = w7.heap.size := by rw [← hwa, ← hw9, ← hw8]; simp
      have hRa : Bi wa w.heap.size IV.zero := (ea _ hne.2.1).trans hR7
      have hXa : XS wa w6.heap.size v ls := hX.keepI (by omega) fun k cs e fr' h1 h2 => ea k (fun h3 => by
        subst h3
        have := hI7
        unfold Bi Blk at this
        rw [this] at h1
        injection h1 with h1
        injection h1 with h4 h5
        exact h2 h5.symm)
      have hba : Below w.heap.size w wa := by
        rw [← hwa, ← hw9, ← hw8]
        exact ((hbw7.grown (grownBy_set w7 ⟨ib, 5, none⟩ _) hbw7.size (fun k e => by cases e; exact hne.2.2.2.2)).grown (grownBy_set _ ⟨ib, 6, none⟩ _) (by have := hbw7.size; simpa using this) (fun k e => by cases e; exact hne.2.2.2.2)).grown (grownBy_set _ ⟨ib, 7, none⟩ _) (by have := hbw7.size; simpa using this) (fun k e => by cases e; exact hne.2.2.2.2)
      have hSa : OwnC 59 2 wa w.heap.size wa.heap.size C.secs (Pe.secs xs).length ((Pe.secs xs).flatMap secC) := by
        have h1 := H.out.2.2.2.2.2.2.2.2.1.below hb7 (Nat.le_refl _)
        refine (h1.keepCells fun k cur fr' _ _ h2 => ea k (fun h3 => ?_)).mono (Nat.le_refl _) (by omega)
        subst h3
        have := hI7
        unfold Bi Blk at this
        rw [this] at h2
        injection h2 with h2
        injection h2 with h4 h5
        exact absurd h5 (by decide)
      have HV := Lib.hid (And.intro he (And.intro hsg (And.intro hls (And.intro hXa (And.intro hRa (And.intro hIa (And.intro hSa hba)))))))
      clear h9 h10 h0 hrw he he0 hsg hls hX hXa hRa hSa hba hI7 hI8 hI9 hIa e8 e9 ea hZ7 hR7 hbw7 hb7 q1 q2 q2' h8
      subst ev
      go_wp2_with (first
        | ((with_reducible refine at_load_img ?_); refine wpList_load_img rfl _ rfl ib _ rfl HV.out.2.2.2.2.2.1 ?_)
        | ((with_reducible refine at_store_img ?_); refine wpList_store_img rfl _ _ rfl w.heap.size IV.zero { C with table := fr, length := ln, sigs := .slice Av ls.length cv } rfl rfl HV.out.2.2.2.2.1 ⟨H.out.2.2.1.1, ⟨_, _, _, rfl⟩⟩ ?_; intro wz hBz hgz)
        | fail)
      have hkz : ∀ (k : Nat) (cs : Array Value) (e : TypeId) (fr' : Nat × Nat), wa.heap[k]? = some (.cells cs e fr') → e ≠ 30 → wz.heap[k]? = wa.heap[k]? := fun k cs e fr' h1 h2 => hgz.block k (Array.getElem?_eq_some_iff.1 h1).1 (fun e' => bi_other HV.out.2.2.2.2.1 h1 h2 (by injection e' with e'))
      have hszz := hgz.size
      have hnum := H.out.1.nums
      refine bodyPost_ret (results_cellTmp Tryz.results23 _ _ _ _ _ rfl (load_img hBz)) rfl ⟨HV.out.2.2.2.2.2.2.2.grown hgz HV.out.2.2.2.2.2.2.2.size (fun j e => by cases e; exact Nat.le_refl _), { C with table := fr, length := ln, sigs := .slice Av ls.length cv }, ?_, ⟨H.out.2.2.1.1, ⟨_, _, _, rfl⟩⟩, fun h => absurd HV.out.1 h, fun _ => ⟨⟨hnum.1, hnum.2.1, hnum.2.2.1, hnum.2.2.2.1, ?_, ?_⟩, ?_, ls, ?_, HV.out.2.2.1.trans HV.out.2.1.symm⟩⟩
      · rw [HV.out.1]; rfl
      · rw [H.out.1.bare, H.out.1.from_]; rfl
      · rw [H.out.1.bare, H.out.1.length_]; rfl
      · exact (HV.out.2.2.2.2.2.2.1.keepCells fun k cur fr' _ _ h2 => hkz k cur _ fr' h2 (by decide)).mono (Nat.le_refl _) hszz
      · exact (HV.out.2.2.2.1.keepI hszz hkz).lower hsz6
end Go.Proofs.YtmpladnglfiejaaGreatDoor
end

section
/- The reference's Parse: the sections. -/
namespace Go.Proofs.YtmpladnglfiejaaGreatDoor
open Go.RowKit
set_option maxRecDepth 100000
set_option linter.unusedVariables false
set_option linter.unusedSimpArgs false
noncomputable def rTail15 : Code := tailOf 15 (codeOf Tryz.f23)
/-- What the reference's Parse knows of right headers. -/
structure RfS (xs : List UInt8) (n T m hd fr ln : Nat) (C : IV) : Prop where
  len : xs.length = n
  n_ : n ≤ 16777216
  head : Pe.head xs = true
  table_ : Pe.table xs = T
  many_ : Pe.many xs = m
  headers_ : Pe.headers xs = hd
  from_ : Pe.from_ xs = fr
  length_ : Pe.length xs = ln
  nums : C.plus = Pe.plus xs ∧ C.check = Pe.opt xs + 64 ∧ C.dir = Pe.dirs xs + 32 ∧ C.headers = Pe.headers xs ∧ C.table = 0 ∧ C.length = 0
  hdl : hd ≤ n
  tl : T + 40 * m ≤ hd
  ml : m ≤ 96
  frl : fr < 4294967296
  lnl : ln < 4294967296
theorem RfS.err {xs : List UInt8} {n T m hd fr ln : Nat} {C : IV} (k : RfS xs n T m hd fr ln C) : (Pe.laid xs = false → Pe.err xs = 9) ∧ (Pe.laid xs = true → (Pe.bare xs = true → Pe.err xs = 0 ∧ Pe.sigs xs = []) ∧ (Pe.bare xs = false → Pe.tabled xs = false → Pe.err xs = 9)) := by
  have hn := k.n_
  have hl := k.len
  refine ⟨fun h => ?_, fun h => ⟨fun hb => ?_, fun hb ht => ?_⟩⟩
  · have hf : Pe.fine xs = false := by unfold Pe.fine; rw [k.head, h]; rfl
    unfold Pe.err; rw [if_neg (by omega), hf]; rfl
  · have hf : Pe.fine xs = true := by unfold Pe.fine Pe.signed; rw [k.head, h, hb]; rfl
    have hs : Pe.sigs xs = [] := by unfold Pe.sigs; rw [hb]; rfl
    refine ⟨?_, hs⟩
    unfold Pe.err; rw [if_neg (by omega), hf, hs]; rfl
  · have hf : Pe.fine xs = false := by unfold Pe.fine Pe.signed; rw [k.head, h, hb, ht]; rfl
    unfold Pe.err; rw [if_neg (by omega), hf]; rfl
theorem Pe.end_le {xs : List UInt8} {m : Nat} (hm : Pe.many xs = m) (h96 : m ≤ 96) (hd : Pe.headers xs ≤ 16777216) : Pe.end_ xs ≤ 1099511627776 := by
  unfold Pe.end_
  have h2 := Pe.sizes_le (m := 4294967296) (Pe.secs xs) fun x hx => Nat.le_of_lt (Pe.secs_small xs x hx).2
  have h3 : (Pe.secs xs).length ≤ 96 := by
    have h4 : (Pe.secs xs).length ≤ (List.range (Pe.many xs)).length := List.length_filterMap_le _ _
    rw [List.length_range] at h4
    omega
  have h4 := Nat.le_trans h2 (Nat.mul_le_mul_right 4294967296 h3)
  omega
set_option maxHeartbeats 4000000 in
theorem ref_tail15 {w : World} {n c zb ib gx cx gy cy T m hd fr ln : Nat} {A : Option Addr} {xs : List UInt8} {C : IV} (k : RfS xs n T m hd fr ln C) (hr : Rd w w.heap.size A n c xs) (hsc : C.secs = .slice none 0 0) (hsg : C.sigs = .slice none 0 0) (w4 : World) (hb4 : Below w.heap.size w w4)
    (hR : Bi w4 w.heap.size IV.zero) (hZ : Bi w4 zb IV.zero) (hI : Bi w4 ib C) (hne : w.heap.size ≠ zb ∧ w.heap.size ≠ ib ∧ zb ≠ ib ∧ w.heap.size ≤ zb ∧ w.heap.size ≤ ib)
    (hgx : w.heap.size ≤ gx ∧ gx < w4.heap.size ∧ gx ≠ ib) (hgy : w.heap.size ≤ gy ∧ gy < w4.heap.size ∧ gy ≠ ib) (p0 : w4.cell? ⟨gx, 0, none⟩ = some (.int .i64 (m : Int))) (p3 : w4.cell? ⟨gx, 3, none⟩ = some (.int .i64 (hd : Int))) (q1 : w4.cell? ⟨gy, 1, none⟩ = some (.int .i64 (fr : Int))) (q2 : w4.cell? ⟨gy, 2, none⟩ = some (.int .i64 (ln : Int)))
    (u1 u3 u5 u6 u7 u10 u13 u14 u15 u16 u17 u18 u19 u20 u21 u22 u23 u24 u25 u26 u27 u28 u29 u30 u31 u32 u33 u34 u35 u36 u37 u38 u39 u40 u41 u42 u43 u44 u45 u46 u47 u48 u49 u50 u51 u52 u53 u54 u55 u56 u57 u58 u59 u60 u61 u62 u63 u64 u65 u66 u67 u68 u69 u70 u71 u72 u73 u74 u75 u76 u77 u78 u79 u80 u81 u82 u83 u84 u85 u86 u87 u88 u89 u90 u91 u92 u93 u94 u95 u96 u97 u98 u99 u100 u101 u102 u103 u104 u105 u106 u107 u108 u109 u110 u111 u112 u113 u114 u115 u116 u117 u118 u119 u120 u121 u122 u123 u124 u125 u126 u127 u128 u129 u130 u131 u132 u133 u134 u135 u136 u137 u138 u139 u140 u141 u142 u143 u144 u145 u146 u147 u148 u149 u150 u151 u152 u153 u154 u155 u156 u157 u158 u159 u160 u161 u162 u163 u164 u165 u166 u167 u168 u169 u170 u171 u172 u173 u174 u175 u176 u177 u178 u179 u180 u181 u182 u183 u184 u185 u186 u187 u188 u189 u190 u191 u192 u193 u194 u195 u196 u197 u198 u199 u200 u201 u202 u203 u204 u205 u206 u207 u208 u209 u210 u211 u212 u213 u214 u215 u216 u217 u218 u219 u220 u221 u222 u223 u224 u225 u226 u227 u228 u229 u230 u231 u232 u233 u234 u235 u236 u237 u238 u239 u240 u241 u242 u243 u244 u245 u246 u247 u248 u249 u250 u251 u252 u253 u254 u255 u256 u257 u258 u259 : Value) :
    rTail15.wp Tryz.prog (bodyPost Tryz.prog Tryz.f23 (RefOut xs w)) { tmps := (Value.slice A n c :: u1 :: Value.pointer (some ⟨w.heap.size, 0, none⟩) :: u3 :: Value.pointer (some ⟨zb, 0, none⟩) :: u5 :: u6 :: u7 :: Value.slice (some ⟨gx, 0, none⟩) 4 cx :: Value.pointer (some ⟨ib, 0, none⟩) :: u10 :: Value.slice (some ⟨gy, 0, none⟩) 3 cy :: Value.int .i64 (T : Int) :: u13 :: u14 :: u15 :: u16 :: u17 :: u18 :: u19 :: u20 :: u21 :: u22 :: u23 :: u24 :: u25 :: u26 :: u27 :: u28 :: u29 :: u30 :: u31 :: u32 :: u33 :: u34 :: u35 :: u36 :: u37 :: u38 :: u39 :: u40 :: u41 :: u42 :: u43 :: u44 :: u45 :: u46 :: u47 :: u48 :: u49 :: u50 :: u51 :: u52 :: u53 :: u54 :: u55 :: u56 :: u57 :: u58 :: u59 :: u60 :: u61 :: u62 :: u63 :: u64 :: u65 :: u66 :: u67 :: u68 :: u69 :: u70 :: u71 :: u72 :: u73 :: u74 :: u75 :: u76 :: u77 :: u78 :: u79 :: u80 :: u81 :: u82 :: u83 :: u84 :: u85 :: u86 :: u87 :: u88 :: u89 :: u90 :: u91 :: u92 :: u93 :: u94 :: u95 :: u96 :: u97 :: u98 :: u99 :: u100 :: u101 :: u102 :: u103 :: u104 :: u105 :: u106 :: u107 :: u108 :: u109 :: u110 :: u111 :: u112 :: u113 :: u114 :: u115 :: u116 :: u117 :: u118 :: u119 :: u120 :: u121 :: u122 :: u123 :: u124 :: u125 :: u126 :: u127 :: u128 :: u129 :: u130 :: u131 :: u132 :: u133 :: u134 :: u135 :: u136 :: u137 :: u138 :: u139 :: u140 :: u141 :: u142 :: u143 :: u144 :: u145 :: u146 :: u147 :: u148 :: u149 :: u150 :: u151 :: u152 :: u153 :: u154 :: u155 :: u156 :: u157 :: u158 :: u159 :: u160 :: u161 :: u162 :: u163 :: u164 :: u165 :: u166 :: u167 :: u168 :: u169 :: u170 :: u171 :: u172 :: u173 :: u174 :: u175 :: u176 :: u177 :: u178 :: u179 :: u180 :: u181 :: u182 :: u183 :: u184 :: u185 :: u186 :: u187 :: u188 :: u189 :: u190 :: u191 :: u192 :: u193 :: u194 :: u195 :: u196 :: u197 :: u198 :: u199 :: u200 :: u201 :: u202 :: u203 :: u204 :: u205 :: u206 :: u207 :: u208 :: u209 :: u210 :: u211 :: u212 :: u213 :: u214 :: u215 :: u216 :: u217 :: u218 :: u219 :: u220 :: u221 :: u222 :: u223 :: u224 :: u225 :: u226 :: u227 :: u228 :: u229 :: u230 :: u231 :: u232 :: u233 :: u234 :: u235 :: u236 :: u237 :: u238 :: u239 :: u240 :: u241 :: u242 :: u243 :: u244 :: u245 :: u246 :: u247 :: u248 :: u249 :: u250 :: u251 :: u252 :: u253 :: u254 :: u255 :: u256 :: u257 :: u258 :: u259 :: []).toArray, defers := [] } w4 := by
  generalize hQ : bodyPost Tryz.prog Tryz.f23 (RefOut xs w) = Q
  unfold rTail15 codeOf
  simp only [Tryz.f23, tailOf, Option.getD_some]
  subst hQ
  have hrl := hR.lt
  have hzl := hZ.lt
  have hil := hI.lt
  have hsz4 := hb4.size
  obtain ⟨la, hla⟩ : ∃ la, Pe.laid xs = la := ⟨_, rfl⟩
  have hsec : ∀ W, Below w.heap.size w W → Calls Tryz.prog 44 #[.slice A n c, .int .i64 (T : Int), .int .i64 (m : Int), .int .i64 (hd : Int)] W fun e w' => Below W.heap.size W w' ∧ ∃ v z, e = .returned (.tuple #[v, z, .bool la]) ∧ (la = true → z = .int .i64 (Pe.end_ xs : Int) ∧ OwnC 59 2 w' W.heap.size w'.heap.size v (Pe.secs xs).length ((Pe.secs xs).flatMap secC)) := by
    intro W hW
    have h1 := k.tl
    have h2 := k.hdl
    refine (sectionsR_any A n c T m hd xs W ((hr.below hW).more hW.size) k.n_ k.table_ k.many_ k.headers_ (by omega) k.ml k.hdl).mono ?_
    rintro e w' ⟨hb, ht, hf⟩
    refine ⟨hb, ?_⟩
    cases la with
    | true =>
      obtain ⟨v, he, ho⟩ := ht hla
      exact ⟨v, _, he, fun _ => ⟨rfl, ho⟩⟩
    | false =>
      obtain ⟨v, z, he⟩ := hf hla
      exact ⟨v, z, he, fun h => by cases h⟩
  have hcell : ∀ W, Below w4.heap.size w4 W → W.cell? ⟨gx, 0, none⟩ = some (.int .i64 (m : Int)) ∧ W.cell? ⟨gx, 3, none⟩ = some (.int .i64 (hd : Int)) ∧ W.cell? ⟨gy, 1, none⟩ = some (.int .i64 (fr : Int)) ∧ W.cell? ⟨gy, 2, none⟩ = some (.int .i64 (ln : Int)) := fun W hW =>
    ⟨(hW.cell (p := ⟨gx, 0, none⟩) hgx.2.1).trans p0, (hW.cell (p := ⟨gx, 3, none⟩) hgx.2.1).trans p3, (hW.cell (p := ⟨gy, 1, none⟩) hgy.2.1).trans q1, (hW.cell (p := ⟨gy, 2, none⟩) hgy.2.1).trans q2⟩
  have herr := k.err
  have H := Lib.hid (And.intro k (And.intro hr (And.intro hb4 (And.intro hR (And.intro hZ (And.intro hI (And.intro hla (And.intro hsec (And.intro hcell (And.intro hsc (And.intro hsg herr)))))))))))
  clear k hr hb4 hR hZ hI hla hsec hcell hsc hsg herr q1 q2
  go_upto_region 20 with fail
  go_region_held3 (fun w' => w'.cell? ⟨gx, 0, none⟩ = some (.int .i64 (m : Int)) ∧ w'.cell? ⟨gx, 3, none⟩ = some (.int .i64 (hd : Int))) (go_keep)
    (first
      | (go_at_call 44; ((with_reducible refine (H.out.2.2.2.2.2.2.2.1 _ (by exact H.out.2.2.1.drew)).mono ?_); rintro e wa ⟨hba, v, z, rfl, hown⟩); have hwa : Below w.heap.size w wa := H.out.2.2.1.drew.trans (hba.mono H.out.2.2.1.size); have h4a : Below w4.heap.size w4 wa := (Below.refl w4.heap.size w4).drew.trans hba; have p0a := (H.out.2.2.2.2.2.2.2.2.1 wa h4a).1; have p3a := (H.out.2.2.2.2.2.2.2.2.1 wa h4a).2.1; have HA := Lib.hid (And.intro hwa (And.intro h4a hown)); clear hba hwa h4a hown))
  have hRa := H.out.2.2.2.1.below HA.out.2.1 hrl
  have hZa := H.out.2.2.2.2.1.below HA.out.2.1 hzl
  have hIa := H.out.2.2.2.2.2.1.below HA.out.2.1 hil
  have hwa := HA.out.1
  cases la
  · have HE := Lib.hid (And.intro (H.out.2.2.2.2.2.2.2.2.2.2.2.1 H.out.2.2.2.2.2.2.1) (And.intro hZa (And.intro hRa hwa)))
    clear hRa hZa hIa hwa
    go_wp2_with (first
          | ((with_reducible refine at_load_img ?_); refine wpList_load_img rfl _ rfl zb IV.zero rfl HE.out.2.1 ?_)
          | ((with_reducible refine at_store_img ?_); refine wpList_store_img rfl _ _ rfl w.heap.size IV.zero IV.zero rfl rfl HE.out.2.2.1 IV.zero_one ?_; intro wz hBz hgz)
          | fail)
    refine bodyPost_ret (results_cellTmp Tryz.results23 _ _ _ _ _ rfl (load_img hBz)) rfl ⟨HE.out.2.2.2.grown hgz HE.out.2.2.2.size (fun j e => by cases e; exact Nat.le_refl _), IV.zero, ?_, IV.zero_one, fun _ => rfl, fun h => absurd (HE.out.1.symm.trans h) (by decide)⟩
    rw [HE.out.1]; rfl
  · obtain ⟨rfl, hown⟩ := HA.out.2.2 (by first | rfl | trivial)
    obtain ⟨Av, cv, ev, _⟩ := hown.rdS
    obtain ⟨ms, hms⟩ : ∃ k, (Pe.secs xs).length = k := ⟨_, rfl⟩
    rw [hms] at hown ev
    subst ev
    obtain ⟨en, hen⟩ : ∃ k, Pe.end_ xs = k := ⟨_, rfl⟩
    rw [hen]
    have hend : en ≤ 1099511627776 := by
      rw [← hen]
      refine Pe.end_le H.out.1.many_ H.out.1.ml ?_
      have h1 := H.out.1.headers_
      have h2 := H.out.1.hdl
      have h3 := H.out.1.n_
      omega
    have hcl := H.out.2.2.2.2.2.2.2.2.1 wa HA.out.2.1
    obtain ⟨w5, hw5⟩ : ∃ x, wa.setCell ⟨ib, 4, none⟩ (.slice Av ms cv) = x := ⟨_, rfl⟩
    have d4 : wa.cell? ⟨ib, 4, none⟩ = some (.slice none 0 0) := (hIa.cell 4).trans (by rw [← H.out.2.2.2.2.2.2.2.2.2.1]; rfl)
    have g4 := hIa.frozen 4
    have hI5 : Bi w5 ib { C with secs := .slice Av ms cv } := by rw [← hw5]; exact hIa.set_ 4 _
    have hR5 : Bi w5 w.heap.size IV.zero := by rw [← hw5]; exact hRa.far (p := ⟨ib, 4, none⟩) hne.2.1 _
    have hZ5 : Bi w5 zb IV.zero := by rw [← hw5]; exact hZa.far (p := ⟨ib, 4, none⟩) hne.2.2.1.symm.symm _
    have sz5 : w5.heap.size = wa.heap.size := by rw [← hw5]; simp
    have hb5 : Below w.heap.size w w5 := by rw [← hw5]; exact hwa.grown (grownBy_set wa ⟨ib, 4, none⟩ _) (by have := hwa.size; simpa using this) (fun k e => by cases e; exact hne.2.2.2.2)
    have hS5 : OwnC 59 2 w5 w.heap.size w5.heap.size (.slice Av ms cv) (Pe.secs xs).length ((Pe.secs xs).flatMap secC) := by
      rw [hms, ← hw5]
      have hil' : ib < w4.heap.size := hil
      exact (hown.setCell (p := ⟨ib, 4, none⟩) (.inl hil') _).mono hsz4 (by simp)
    have q1 : w5.cell? ⟨gy, 1, none⟩ = some (.int .i64 (fr : Int)) := by rw [← hw5]; exact (World.cell?_of_block (a := ⟨gy, 1, none⟩) (Below.heap_setCell _ _ _ gy hgy.2.2)).trans hcl.2.2.1
    have q2 : w5.cell? ⟨gy, 2, none⟩ = some (.int .i64 (ln : Int)) := by rw [← hw5]; exact (World.cell?_of_block (a := ⟨gy, 2, none⟩) (Below.heap_setCell _ _ _ gy hgy.2.2)).trans hcl.2.2.2
    have hgy5 : w.heap.size ≤ gy ∧ gy < w5.heap.size ∧ gy ≠ ib := ⟨hgy.1, by rw [sz5]; exact Nat.lt_of_lt_of_le hgy.2.1 HA.out.2.1.size, hgy.2.2⟩
    have hfrl := H.out.1.frl
    have hlnl := H.out.1.lnl
    have hn := H.out.1.n_
    have hbare : Pe.bare xs = (fr == 0 && ln == 0) := by unfold Pe.bare; rw [H.out.1.from_, H.out.1.length_]
    have hmod : Int.tmod (fr : Int) 8 = ((fr % 8 : Nat) : Int) := rfl
    have htab : Pe.tabled xs = (decide (0 < ln) && (fr % 8 == 0) && decide (en ≤ fr) && (fr + ln == n)) := by unfold Pe.tabled; rw [H.out.1.from_, H.out.1.length_, hen, H.out.1.len]
    obtain ⟨r8, hr8⟩ : ∃ r8, fr % 8 = r8 := ⟨_, rfl⟩
    rw [hr8] at hmod htab
    clear hr8
    have herr := H.out.2.2.2.2.2.2.2.2.2.2.2.2 H.out.2.2.2.2.2.2.1
    have H5 := Lib.hid (And.intro hI5 (And.intro hR5 (And.intro hZ5 (And.intro hb5 (And.intro hS5 (And.intro hgy5 (And.intro hbare (And.intro htab herr))))))))
    have HQ := Lib.hid (And.intro q1 q2)
    clear hI5 hR5 hZ5 hb5 hS5 hgy5 hbare htab herr hRa hZa hIa hwa hcl hown hms hen p0 p3 p0a p3a sz5
    by_cases f0 : fr = 0 ∧ ln = 0
    · have c1 : ((fr : Int) == 0) = true := by simp; omega
      have c2 : ((ln : Int) == 0) = true := by simp; omega
      have hbt : Pe.bare xs = true := by rw [H5.out.2.2.2.2.2.2.1]; simp [f0]
      have he := H5.out.2.2.2.2.2.2.2.2.1 hbt
      have HE := Lib.hid (And.intro he hbt)
      clear f0 he hbt
      go_upto_region 24 with fail
      clear hw5 d4 g4
      go_wp2_with   (first
        | ((with_reducible refine at_load_img ?_); refine wpList_load_img rfl _ rfl ib _ rfl H5.out.1 ?_)
        | ((with_reducible refine at_store_img ?_); refine wpList_store_img rfl _ _ rfl w.heap.size IV.zero { C with secs := .slice Av ms cv } rfl rfl H5.out.2.1 ⟨⟨_, _, _, rfl⟩, ⟨_, _, _, H.out.2.2.2.2.2.2.2.2.2.2.1⟩⟩ ?_; intro wz hBz hgz)
        | fail)
      refine bodyPost_ret (results_cellTmp Tryz.results23 _ _ _ _ _ rfl (load_img hBz)) rfl ⟨H5.out.2.2.2.1.grown hgz H5.out.2.2.2.1.size (fun j e => by cases e; exact Nat.le_refl _), { C with secs := .slice Av ms cv }, ?_, ⟨⟨_, _, _, rfl⟩, ⟨_, _, _, H.out.2.2.2.2.2.2.2.2.2.2.1⟩⟩, fun h => absurd HE.out.1.1 h, fun _ => ?_⟩
      · rw [HE.out.1.1]; rfl
      · have hnum := H.out.1.nums
        have hszz := hgz.size
        refine ⟨⟨hnum.1, hnum.2.1, hnum.2.2.1, hnum.2.2.2.1, by rw [HE.out.2]; exact hnum.2.2.2.2.1, by rw [HE.out.2]; exact hnum.2.2.2.2.2⟩, ?_, [], ?_, HE.out.1.2.symm⟩
        · exact (H5.out.2.2.2.2.1.keepCells fun k cur fr' _ _ h2 => hgz.block k (Array.getElem?_eq_some_iff.1 h2).1 (fun e' => bi_other H5.out.2.1 h2 (by decide) (by injection e' with e'))).mono (Nat.le_refl _) hszz
        · show XS wz w.heap.size C.sigs []
          rw [H.out.2.2.2.2.2.2.2.2.2.2.1]
          exact XS.nil_
    · have hbf : Pe.bare xs = false := by rw [H5.out.2.2.2.2.2.2.1, Bool.eq_false_iff]; simp; omega
      have HB := Lib.hid hbf
      clear hbf
      by_cases f1 : fr = 0
      · have c1 : ((fr : Int) == 0) = true := by simp; omega
        have F1 := Lib.hid f1
        by_cases t1 : ln = 0
        · exact absurd ⟨f1, t1⟩ f0
        · clear f1
          have c2 : ((ln : Int) == 0) = false := by simp; omega
          have T1 := Lib.hid t1
          clear t1 f0
          go_upto_region 26 with fail
          clear hw5 d4 g4
          have t1 := T1.out
          by_cases t2 : ¬ r8 = 0
          · have c3 : ((r8 : Int) != 0) = true := by simp; omega
            have htf : Pe.tabled xs = false := by rw [H5.out.2.2.2.2.2.2.2.1, Bool.eq_false_iff]; simp; omega
            have HE := Lib.hid (And.intro (H5.out.2.2.2.2.2.2.2.2.2 HB.out htf) (And.intro H5.out.2.2.1 (And.intro H5.out.2.1 H5.out.2.2.2.1)))
            clear htf
            (repeat (first | clear t4 | clear t3 | clear t2 | clear t1))
            go_quiet (fail)
            go_wp2_with (first
                  | ((with_reducible refine at_load_img ?_); refine wpList_load_img rfl _ rfl zb IV.zero rfl HE.out.2.1 ?_)
                  | ((with_reducible refine at_store_img ?_); refine wpList_store_img rfl _ _ rfl w.heap.size IV.zero IV.zero rfl rfl HE.out.2.2.1 IV.zero_one ?_; intro wz hBz hgz)
                  | fail)
            refine bodyPost_ret (results_cellTmp Tryz.results23 _ _ _ _ _ rfl (load_img hBz)) rfl ⟨(below_drewN HE.out.2.2.2 _).grown hgz HE.out.2.2.2.size (fun j e => by cases e; exact Nat.le_refl _), IV.zero, ?_, IV.zero_one, fun _ => rfl, fun h => absurd (HE.out.1.symm.trans h) (by decide)⟩
            rw [HE.out.1]; rfl
          · have c3 : ((r8 : Int) != 0) = false := by simp; omega
            by_cases t3 : fr < en
            · have c4 : (fr : Int) < en := by omega
              have htf : Pe.tabled xs = false := by rw [H5.out.2.2.2.2.2.2.2.1, Bool.eq_false_iff]; simp; omega
              have HE := Lib.hid (And.intro (H5.out.2.2.2.2.2.2.2.2.2 HB.out htf) (And.intro H5.out.2.2.1 (And.intro H5.out.2.1 H5.out.2.2.2.1)))
              clear htf
              (repeat (first | clear t4 | clear t3 | clear t2 | clear t1))
              go_quiet (fail)
              go_wp2_with (first
                    | ((with_reducible refine at_load_img ?_); refine wpList_load_img rfl _ rfl zb IV.zero rfl HE.out.2.1 ?_)
                    | ((with_reducible refine at_store_img ?_); refine wpList_store_img rfl _ _ rfl w.heap.size IV.zero IV.zero rfl rfl HE.out.2.2.1 IV.zero_one ?_; intro wz hBz hgz)
                    | fail)
              refine bodyPost_ret (results_cellTmp Tryz.results23 _ _ _ _ _ rfl (load_img hBz)) rfl ⟨(below_drewN HE.out.2.2.2 _).grown hgz HE.out.2.2.2.size (fun j e => by cases e; exact Nat.le_refl _), IV.zero, ?_, IV.zero_one, fun _ => rfl, fun h => absurd (HE.out.1.symm.trans h) (by decide)⟩
              rw [HE.out.1]; rfl
            · have c4 : ¬ (fr : Int) < en := by omega
              by_cases t4 : ¬ fr + ln = n
              · have c5 : ((fr : Int) + ln != n) = true := by simp; omega
                have htf : Pe.tabled xs = false := by rw [H5.out.2.2.2.2.2.2.2.1, Bool.eq_false_iff]; simp; omega
                have HE := Lib.hid (And.intro (H5.out.2.2.2.2.2.2.2.2.2 HB.out htf) (And.intro H5.out.2.2.1 (And.intro H5.out.2.1 H5.out.2.2.2.1)))
                clear htf
                (repeat (first | clear t4 | clear t3 | clear t2 | clear t1))
                go_quiet (fail)
                go_wp2_with (first
                      | ((with_reducible refine at_load_img ?_); refine wpList_load_img rfl _ rfl zb IV.zero rfl HE.out.2.1 ?_)
                      | ((with_reducible refine at_store_img ?_); refine wpList_store_img rfl _ _ rfl w.heap.size IV.zero IV.zero rfl rfl HE.out.2.2.1 IV.zero_one ?_; intro wz hBz hgz)
                      | fail)
                refine bodyPost_ret (results_cellTmp Tryz.results23 _ _ _ _ _ rfl (load_img hBz)) rfl ⟨(below_drewN HE.out.2.2.2 _).grown hgz HE.out.2.2.2.size (fun j e => by cases e; exact Nat.le_refl _), IV.zero, ?_, IV.zero_one, fun _ => rfl, fun h => absurd (HE.out.1.symm.trans h) (by decide)⟩
                rw [HE.out.1]; rfl
              · have c5 : ((fr : Int) + ln != n) = false := by simp; omega
                have t4' : fr + ln = n := by omega
                have htt : Pe.tabled xs = true := by rw [H5.out.2.2.2.2.2.2.2.1]; simp; omega
                have HT := Lib.hid (And.intro htt t4')
                clear htt t1 t2 t3 t4 t4'
                go_quiet (fail)
                apply_assumption
                refine wp_cond_false (by rfl) (wp_skip ?_)
                apply_assumption
                exact ref_tail20 (C := { C with secs := .slice Av ms cv }) ⟨H.out.1.len, H.out.1.n_, H.out.1.head, H.out.2.2.2.2.2.2.1, HT.out.1, HB.out, H.out.1.from_, H.out.1.length_, H.out.1.nums, by have := HT.out.2; omega, by have := HT.out.2; omega⟩ H.out.2.1 ⟨⟨_, _, _, rfl⟩, ⟨_, _, _, H.out.2.2.2.2.2.2.2.2.2.2.1⟩⟩ H.out.2.2.2.2.2.2.2.2.2.2.1 _ (below_drewN H5.out.2.2.2.1 _) (H5.out.2.1.drewN _) (H5.out.2.2.1.drewN _) (H5.out.1.drewN _) hne H5.out.2.2.2.2.2.1 HQ.out.1 HQ.out.2 (OwnC.keep H5.out.2.2.2.2.1 fun _ _ _ => rfl) _ _ _ _ _ _ _ _ _ _ _ _ _ _ _ _ _ _ _ _ _ _ _ _ _ _ _ _ _ _ _ _ _ _ _ _ _ _ _ _ _ _ _ _ _ _ _ _ _ _ _ _ _ _ _ _ _ _ _ _ _ _ _ _ _ _ _ _ _ _ _ _ _ _ _ _ _ _ _ _ _ _ _ _ _ _ _ _ _ _ _ _ _ _ _ _ _ _ _ _ _ _ _ _ _ _ _ _ _ _ _ _ _ _ _ _ _ _ _ _ _ _ _ _ _ _ _ _ _ _ _ _ _ _ _ _ _ _ _ _ _ _ _ _ _ _ _ _ _ _ _ _ _ _ _ _ _ _ _ _ _ _ _ _ _ _ _ _ _ _ _ _ _ _ _ _ _ _ _ _ _ _ _ _ _ _ _ _ _ _ _ _ _ _ _ _ _ _ _ _ _ _ _ _ _ _ _ _ _ _ _ _ _ _ _ _ _ _ _ _ _ _ _ _ _ _ _ _ _ _ _ _ _ _ _ _ _ _ _ _ _ _ _ _ _ _ _ _ _ _ _ _ _ _ _
      · have c1 : ((fr : Int) == 0) = false := by simp; omega
        have F1 := Lib.hid f1
        by_cases t1 : ln = 0
        · clear f1
          have c2 : ((ln : Int) == 0) = true := by simp; omega
          have T1 := Lib.hid t1
          clear t1 f0
          go_upto_region 26 with fail
          clear hw5 d4 g4
          have t1 := T1.out
          have htf : Pe.tabled xs = false := by rw [H5.out.2.2.2.2.2.2.2.1, Bool.eq_false_iff]; simp; omega
          have HE := Lib.hid (And.intro (H5.out.2.2.2.2.2.2.2.2.2 HB.out htf) (And.intro H5.out.2.2.1 (And.intro H5.out.2.1 H5.out.2.2.2.1)))
          clear htf
          (repeat (first | clear t4 | clear t3 | clear t2 | clear t1))
          go_quiet (fail)
          go_wp2_with (first
                | ((with_reducible refine at_load_img ?_); refine wpList_load_img rfl _ rfl zb IV.zero rfl HE.out.2.1 ?_)
                | ((with_reducible refine at_store_img ?_); refine wpList_store_img rfl _ _ rfl w.heap.size IV.zero IV.zero rfl rfl HE.out.2.2.1 IV.zero_one ?_; intro wz hBz hgz)
                | fail)
          refine bodyPost_ret (results_cellTmp Tryz.results23 _ _ _ _ _ rfl (load_img hBz)) rfl ⟨(below_drewN HE.out.2.2.2 _).grown hgz HE.out.2.2.2.size (fun j e => by cases e; exact Nat.le_refl _), IV.zero, ?_, IV.zero_one, fun _ => rfl, fun h => absurd (HE.out.1.symm.trans h) (by decide)⟩
          rw [HE.out.1]; rfl
        · clear f1
          have c2 : ((ln : Int) == 0) = false := by simp; omega
          have T1 := Lib.hid t1
          clear t1 f0
          go_upto_region 26 with fail
          clear hw5 d4 g4
          have t1 := T1.out
          by_cases t2 : ¬ r8 = 0
          · have c3 : ((r8 : Int) != 0) = true := by simp; omega
            have htf : Pe.tabled xs = false := by rw [H5.out.2.2.2.2.2.2.2.1, Bool.eq_false_iff]; simp; omega
            have HE := Lib.hid (And.intro (H5.out.2.2.2.2.2.2.2.2.2 HB.out htf) (And.intro H5.out.2.2.1 (And.intro H5.out.2.1 H5.out.2.2.2.1)))
            clear htf
            (repeat (first | clear t4 | clear t3 | clear t2 | clear t1))
            go_quiet (fail)
            go_wp2_with (first
                  | ((with_reducible refine at_load_img ?_); refine wpList_load_img rfl _ rfl zb IV.zero rfl HE.out.2.1 ?_)
                  | ((with_reducible refine at_store_img ?_); refine wpList_store_img rfl _ _ rfl w.heap.size IV.zero IV.zero rfl rfl HE.out.2.2.1 IV.zero_one ?_; intro wz hBz hgz)
                  | fail)
            refine bodyPost_ret (results_cellTmp Tryz.results23 _ _ _ _ _ rfl (load_img hBz)) rfl ⟨(below_drewN HE.out.2.2.2 _).grown hgz HE.out.2.2.2.size (fun j e => by cases e; exact Nat.le_refl _), IV.zero, ?_, IV.zero_one, fun _ => rfl, fun h => absurd (HE.out.1.symm.trans h) (by decide)⟩
            rw [HE.out.1]; rfl
          · have c3 : ((r8 : Int) != 0) = false := by simp; omega
            by_cases t3 : fr < en
            · have c4 : (fr : Int) < en := by omega
              have htf : Pe.tabled xs = false := by rw [H5.out.2.2.2.2.2.2.2.1, Bool.eq_false_iff]; simp; omega
              have HE := Lib.hid (And.intro (H5.out.2.2.2.2.2.2.2.2.2 HB.out htf) (And.intro H5.out.2.2.1 (And.intro H5.out.2.1 H5.out.2.2.2.1)))
              clear htf
              (repeat (first | clear t4 | clear t3 | clear t2 | clear t1))
              go_quiet (fail)
              go_wp2_with (first
                    | ((with_reducible refine at_load_img ?_); refine wpList_load_img rfl _ rfl zb IV.zero rfl HE.out.2.1 ?_)
                    | ((with_reducible refine at_store_img ?_); refine wpList_store_img rfl _ _ rfl w.heap.size IV.zero IV.zero rfl rfl HE.out.2.2.1 IV.zero_one ?_; intro wz hBz hgz)
                    | fail)
              refine bodyPost_ret (results_cellTmp Tryz.results23 _ _ _ _ _ rfl (load_img hBz)) rfl ⟨(below_drewN HE.out.2.2.2 _).grown hgz HE.out.2.2.2.size (fun j e => by cases e; exact Nat.le_refl _), IV.zero, ?_, IV.zero_one, fun _ => rfl, fun h => absurd (HE.out.1.symm.trans h) (by decide)⟩
              rw [HE.out.1]; rfl
            · have c4 : ¬ (fr : Int) < en := by omega
              by_cases t4 : ¬ fr + ln = n
              · have c5 : ((fr : Int) + ln != n) = true := by simp; omega
                have htf : Pe.tabled xs = false := by rw [H5.out.2.2.2.2.2.2.2.1, Bool.eq_false_iff]; simp; omega
                have HE := Lib.hid (And.intro (H5.out.2.2.2.2.2.2.2.2.2 HB.out htf) (And.intro H5.out.2.2.1 (And.intro H5.out.2.1 H5.out.2.2.2.1)))
                clear htf
                (repeat (first | clear t4 | clear t3 | clear t2 | clear t1))
                go_quiet (fail)
                go_wp2_with (first
                      | ((with_reducible refine at_load_img ?_); refine wpList_load_img rfl _ rfl zb IV.zero rfl HE.out.2.1 ?_)
                      | ((with_reducible refine at_store_img ?_); refine wpList_store_img rfl _ _ rfl w.heap.size IV.zero IV.zero rfl rfl HE.out.2.2.1 IV.zero_one ?_; intro wz hBz hgz)
                      | fail)
                refine bodyPost_ret (results_cellTmp Tryz.results23 _ _ _ _ _ rfl (load_img hBz)) rfl ⟨(below_drewN HE.out.2.2.2 _).grown hgz HE.out.2.2.2.size (fun j e => by cases e; exact Nat.le_refl _), IV.zero, ?_, IV.zero_one, fun _ => rfl, fun h => absurd (HE.out.1.symm.trans h) (by decide)⟩
                rw [HE.out.1]; rfl
              · have c5 : ((fr : Int) + ln != n) = false := by simp; omega
                have t4' : fr + ln = n := by omega
                have htt : Pe.tabled xs = true := by rw [H5.out.2.2.2.2.2.2.2.1]; simp; omega
                have HT := Lib.hid (And.intro htt t4')
                clear htt t1 t2 t3 t4 t4'
                go_quiet (fail)
                apply_assumption
                refine wp_cond_false (by rfl) (wp_skip ?_)
                apply_assumption
                exact ref_tail20 (C := { C with secs := .slice Av ms cv }) ⟨H.out.1.len, H.out.1.n_, H.out.1.head, H.out.2.2.2.2.2.2.1, HT.out.1, HB.out, H.out.1.from_, H.out.1.length_, H.out.1.nums, by have := HT.out.2; omega, by have := HT.out.2; omega⟩ H.out.2.1 ⟨⟨_, _, _, rfl⟩, ⟨_, _, _, H.out.2.2.2.2.2.2.2.2.2.2.1⟩⟩ H.out.2.2.2.2.2.2.2.2.2.2.1 _ (below_drewN H5.out.2.2.2.1 _) (H5.out.2.1.drewN _) (H5.out.2.2.1.drewN _) (H5.out.1.drewN _) hne H5.out.2.2.2.2.2.1 HQ.out.1 HQ.out.2 (OwnC.keep H5.out.2.2.2.2.1 fun _ _ _ => rfl) _ _ _ _ _ _ _ _ _ _ _ _ _ _ _ _ _ _ _ _ _ _ _ _ _ _ _ _ _ _ _ _ _ _ _ _ _ _ _ _ _ _ _ _ _ _ _ _ _ _ _ _ _ _ _ _ _ _ _ _ _ _ _ _ _ _ _ _ _ _ _ _ _ _ _ _ _ _ _ _ _ _ _ _ _ _ _ _ _ _ _ _ _ _ _ _ _ _ _ _ _ _ _ _ _ _ _ _ _ _ _ _ _ _ _ _ _ _ _ _ _ _ _ _ _ _ _ _ _ _ _ _ _ _ _ _ _ _ _ _ _ _ _ _ _ _ _ _ _ _ _ _ _ _ _ _ _ _ _ _ _ _ _ _ _ _ _ _ _ _ _ _ _ _ _ _ _ _ _ _ _ _ _ _ _ _ _ _ _ _ _ _ _ _ _ _ _ _ _ _ _ _ _ _ _ _ _ _ _ _ _ _ _ _ _ _ _ _ _ _ _ _ _ _ _ _ _ _ _ _ _ _ _ _ _ _ _ _ _ _ _ _ _ _ _ _ _ _ _ _ _ _ _ _ _
end Go.Proofs.YtmpladnglfiejaaGreatDoor
end
