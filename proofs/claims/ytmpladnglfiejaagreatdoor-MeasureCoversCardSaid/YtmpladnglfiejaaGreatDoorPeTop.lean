/- The contract of pe.Parse. -/
import Derived.Test.YtmpladnglfiejaaGreatDoorPeParse
namespace Go.Proofs.YtmpladnglfiejaaGreatDoor
open Go.RowKit Go.Shelf
set_option maxRecDepth 100000
set_option linter.unusedVariables false
set_option linter.unusedSimpArgs false

/-- What Parse answers. -/
def ParseOut (xs : List UInt8) (w : World) (e : Ending) (w' : World) : Prop :=
  Below w.heap.size w w' ∧ ∃ C : IV, e = .returned (.tuple #[C.val, .int .i64 (Pe.err xs : Int)]) ∧ C.One ∧ (Pe.err xs ≠ 0 → C = IV.zero) ∧ (Pe.err xs = 0 → ImgOwn xs C w.heap.size w')
theorem ImgOwn.below {xs : List UInt8} {C : IV} {lo lo' : Nat} {w w' : World} (h : ImgOwn xs C lo w) (hb : Below w.heap.size w w') (hl : lo' ≤ lo) : ImgOwn xs C lo' w' := by
  obtain ⟨l, hs, hl'⟩ := h.sigs
  exact ⟨h.nums, (h.secs.below hb (Nat.le_refl _)).mono hl hb.size, l, (hs.below hb).lower hl, hl'⟩
theorem ImgOwn.grown {xs : List UInt8} {C : IV} {lo lo' I : Nat} {w w' : World} (h : ImgOwn xs C lo w) (hg : w.grownBy w' (some I)) (hI : I < lo ∨ w.heap.size ≤ I) (hl : lo' ≤ lo) : ImgOwn xs C lo' w' := by
  obtain ⟨l, hs, hl'⟩ := h.sigs
  refine ⟨h.nums, (h.secs.keep fun k h1 h2 => hg.block k h2 (fun e => by injection e with e; omega)).mono hl hg.size, l, (hs.keep hg.size fun k cur e fr h1 h2 => hg.block k (Array.getElem?_eq_some_iff.1 h2).1 (fun e => ?_)).lower hl, hl'⟩
  injection e with e
  have := (Array.getElem?_eq_some_iff.1 h2).1
  omega
set_option maxHeartbeats 1000000 in
theorem pe_parse_any (A : Option Addr) (n c : Nat) (xs : List UInt8) (w : World) (hr : Rd w w.heap.size A n c xs) :
    Calls Tryz.prog 18 #[.slice A n c] w (ParseOut xs w) := by
  have hl := hr.len
  have hB0 : Bi (w.alloc (.cells IV.zero.cells 30)) w.heap.size IV.zero := Blk.new _ _ _
  have H := Lib.hid (And.intro hr hB0)
  clear hr hB0
  by_cases hn : (n : Int) ≤ 16777216
  · have hn' : n ≤ 16777216 := by omega
    have hB1 := Blk.new (w.alloc (.cells IV.zero.cells 30)) 70 #[.slice A n c, .bool true]
    rw [World.size_alloc] at hB1
    have hr1 : Rd ((w.alloc (.cells IV.zero.cells 30)).alloc (.cells #[.slice A n c, .bool true] 70)) (w.heap.size + 1) A n c xs := (((H.out.1.alloc (Nat.le_refl _) _).alloc (by simp) _).more (by omega))
    have hp := parse_own (w.heap.size + 1) A n c xs _ hB1 hr1 hn'
    have HP := Lib.hid hp
    clear hp hB1 hr1
    go_enter Tryz.func18, Tryz.ntmps18
    go_wp2_with fail
    refine HP.out.mono ?_
    rintro e w1 ⟨C, rfl, hS, hone, himg⟩
    have hs1 := hS.grown.size
    simp only [World.size_alloc] at hs1 himg
    have hb1 : Below w.heap.size w w1 := (((Below.refl _ _).alloc (Nat.le_refl _) _).alloc (by simp) _).grown hS.grown (by simp; omega) (fun j e => by injection e with e; omega)
    have hB01 : Bi w1 w.heap.size IV.zero := (H.out.2.alloc (.cells #[.slice A n c, .bool true] 70)).grown hS.grown (fun e => by injection e with e; omega)
    obtain ⟨fl, hfl⟩ : ∃ fl, Pe.fine xs = fl := ⟨_, rfl⟩
    rw [hfl] at hS himg
    have H1 := Lib.hid (And.intro hS (And.intro himg (And.intro hb1 (And.intro hB01 (And.intro hone hfl)))))
    clear hS himg hb1 hB01 hfl
    obtain ⟨⟨A4, n4, c4, e4⟩, ⟨A7, n7, c7, e7⟩⟩ := hone
    have E7 := Lib.hid (And.intro e4 e7)
    clear e4 e7
    go_upto_region 5 with (first
      | ((with_reducible refine at_store_img ?_); refine wpList_store_img rfl _ _ rfl w1.heap.size IV.zero C rfl rfl (Blk.new w1 _ _) H1.out.2.2.2.2.1 ?_; intro w2 hB2 hg2)
      | fail)
    have hw12 : w1.grownBy w2 (some w1.heap.size) := ⟨hg2.os, hg2.tape, hg2.output, Nat.le_trans (by simp) hg2.size, fun k h1 h2 => (hg2.block k (by simp; omega) h2).trans (Below.heap_alloc _ _ k h1)⟩
    have hb2 : Below w.heap.size w w2 := H1.out.2.2.1.grown hw12 (by omega) (fun j e => by injection e with e; omega)
    have hB02 : Bi w2 w.heap.size IV.zero := H1.out.2.2.2.1.grown hw12 (fun e => by injection e with e; omega)
    have hR2 : w2.cell? ⟨w.heap.size + 1, 1, none⟩ = some (.bool fl) := ((H1.out.1.blk.grown hw12 (fun e => by injection e with e; omega)).facts).1 1
    have k7 : w2.cell? ⟨w1.heap.size, 7, none⟩ = some (.slice A7 n7 c7) := by have := hB2.cell 7; rw [← E7.out.2]; exact this
    have hs2 := hw12.size
    have H2 := Lib.hid (And.intro hB2 (And.intro hw12 (And.intro hb2 hB02)))
    clear hB2 hg2 hw12 hb2 hB02
    cases fl
    · have he : Pe.err xs = 9 := by unfold Pe.err; rw [if_neg (by omega), H1.out.2.2.2.2.2]; rfl
      have HE := Lib.hid he
      clear he
      go_wp2_with (first
        | ((with_reducible refine at_store_img ?_); refine wpList_store_img rfl _ _ rfl w.heap.size IV.zero IV.zero rfl rfl H2.out.2.2.2 IV.zero_one ?_; intro wz hBz hgz)
        | fail)
      refine bodyPost_ret (results_cellTmp Tryz.results18 _ _ _ _ _ rfl (load_img hBz)) rfl ⟨H2.out.2.2.1.grown hgz (by omega) (fun j e => by cases e; exact Nat.le_refl _), IV.zero, ?_, IV.zero_one, fun _ => rfl, fun h => absurd (HE.out.symm.trans h) (by decide)⟩
      rw [HE.out]; rfl
    · have hn7 : (Pe.sigs xs).length = n7 := by
        obtain ⟨l, hsg, hls⟩ := (H1.out.2.1 (by first | rfl | trivial)).sigs
        obtain ⟨A8, c8, e8, _⟩ := hsg.row.shape
        rw [E7.out.2] at e8
        injection e8 with _ e9 _
        rw [← hls, List.length_map, e9]
      have HN := Lib.hid hn7
      clear hn7
      by_cases h8 : (8 : Int) < n7
      · have he : Pe.err xs = 10 := by unfold Pe.err; rw [if_neg (by omega), H1.out.2.2.2.2.2, if_pos rfl, HN.out, if_pos (by omega)]
        have HE := Lib.hid he
        clear he
        go_wp2_with (first
          | ((with_reducible refine at_store_img ?_); refine wpList_store_img rfl _ _ rfl w.heap.size IV.zero IV.zero rfl rfl H2.out.2.2.2 IV.zero_one ?_; intro wz hBz hgz)
          | fail)
        refine bodyPost_ret (results_cellTmp Tryz.results18 _ _ _ _ _ rfl (load_img hBz)) rfl ⟨H2.out.2.2.1.grown hgz (by omega) (fun j e => by cases e; exact Nat.le_refl _), IV.zero, ?_, IV.zero_one, fun _ => rfl, fun h => absurd (HE.out.symm.trans h) (by decide)⟩
        rw [HE.out]; rfl
      · have he : Pe.err xs = 0 := by unfold Pe.err; rw [if_neg (by omega), H1.out.2.2.2.2.2, if_pos rfl, HN.out, if_neg (by omega)]
        have HE := Lib.hid he
        clear he
        go_wp2_with (first
          | ((with_reducible refine at_load_img ?_); refine wpList_load_img rfl _ rfl w1.heap.size C rfl H2.out.1 ?_)
          | ((with_reducible refine at_store_img ?_); refine wpList_store_img rfl _ _ rfl w.heap.size IV.zero C rfl rfl H2.out.2.2.2 H1.out.2.2.2.2.1 ?_; intro wz hBz hgz)
          | fail)
        refine bodyPost_ret (results_cellTmp Tryz.results18 _ _ _ _ _ rfl (load_img hBz)) rfl ⟨H2.out.2.2.1.grown hgz (by omega) (fun j e => by cases e; exact Nat.le_refl _), C, ?_, H1.out.2.2.2.2.1, fun h => absurd HE.out h, fun _ => ?_⟩
        · rw [HE.out]; rfl
        · exact ((H1.out.2.1 (by first | rfl | trivial)).grown H2.out.2.1 (.inr (Nat.le_refl _)) (Nat.le_refl _)).grown hgz (.inl (by omega)) (by omega)
  · have he : Pe.err xs = 10 := by unfold Pe.err; rw [if_pos (by omega)]
    have HE := Lib.hid he
    clear he
    go_enter Tryz.func18, Tryz.ntmps18
    go_wp2_with (first
      | ((with_reducible refine at_store_img ?_); refine wpList_store_img rfl _ _ rfl w.heap.size IV.zero IV.zero rfl rfl H.out.2 IV.zero_one ?_; intro wz hBz hgz)
      | fail)
    refine bodyPost_ret (results_cellTmp Tryz.results18 _ _ _ _ _ rfl (load_img hBz)) rfl ⟨((Below.refl _ _).alloc (Nat.le_refl _) _).grown hgz (by simp) (fun j e => by cases e; exact Nat.le_refl _), IV.zero, ?_, IV.zero_one, fun _ => rfl, fun h => absurd (HE.out.symm.trans h) (by decide)⟩
    rw [HE.out]; rfl
end Go.Proofs.YtmpladnglfiejaaGreatDoor
