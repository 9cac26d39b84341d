/- What a law knows of the image that it has made. -/
import Derived.Test.YtedlpcioegbmfaaDoorPF
import Derived.Test.YtedlpcioegbmfaaDoorPJ
namespace Go.Proofs.YtedlpcioegbmfaaDoor
open Go.RowKit
set_option maxRecDepth 100000
set_option linter.unusedVariables false
set_option linter.unusedSimpArgs false
namespace Pe
theorem brought_sigs (s : Shape) : (brought s).sigs.length ≤ 8 := by simp only [brought, List.length_map, List.length_take]; omega
theorem read_err {S : Shape} {c : List UInt8} (h : Read S c) (ho : S.Ok) (h8 : S.sigs.length ≤ 8) : Pe.err c = 0 ∧ Pe.img c = S.img := by
  obtain ⟨h1, h2, h3⟩ := h.fine_ ho
  refine ⟨?_, h2⟩
  have hl := h.size
  have hw := S.write_small ho
  unfold Pe.err
  rw [if_neg (by omega), h1, if_pos rfl, h3, if_neg (by omega)]
end Pe
/-- The numbers of the image of a shape. -/
structure SN (S : Pe.Shape) (C : IV) : Prop where
  plus : C.plus = S.plus
  check : C.check = S.opt + 64
  dir : C.dir = S.table - 96
  headers : C.headers = S.headers
  table : C.table = if S.sigs = [] then 0 else S.from_
  length : C.length = if S.sigs = [] then 0 else (Pe.sigTable S.sigs).length
theorem ImgOwn.img {xs : List UInt8} {C : IV} {lo : Nat} {W : World} (h : ImgOwn xs C lo W) : C.plus = (Pe.img xs).plus ∧ C.check = (Pe.img xs).check ∧ C.dir = (Pe.img xs).dir ∧ C.headers = (Pe.img xs).headers ∧ C.table = (Pe.img xs).table ∧ C.length = (Pe.img xs).length := h.nums
theorem ImgOwn.sn {S : Pe.Shape} {xs : List UInt8} {C : IV} {lo : Nat} {W : World} (h : ImgOwn xs C lo W) (e : Pe.img xs = S.img) : SN S C := by
  obtain ⟨h1, h2, h3, h4, h5, h6⟩ := h.img
  rw [e] at h1 h2 h3 h4 h5 h6
  exact ⟨h1, h2, h3, h4, h5, h6⟩
theorem Sgs.rdL {w : World} {lo : Nat} {v : Value} {l : List (Value × List UInt8)} (h : Sgs w lo v l) : ∃ A c, v = .slice A l.length c ∧ RdL w w.heap.size A l.length c l := by
  obtain ⟨A, c, e, h1, h2, h3, h4⟩ := h.row.shape
  refine ⟨A, c, e, rfl, h1, h2, h4, fun v xs hm => ?_⟩
  obtain ⟨A', n', c', e', hr⟩ := (h.own (v, xs) hm).rd
  exact ⟨A', n', c', e', hr⟩
/-- Same, at two images that tell the same. -/
theorem same_own {xs ys : List UInt8} {C D : IV} {lo lo' : Nat} {w : World} (hC : ImgOwn xs C lo w) (hD : ImgOwn ys D lo' w) (he : Pe.err xs = 0) (hi : Pe.img xs = Pe.img ys) :
    Calls Tryd.prog 13 #[C.val, D.val] w fun e w' => e = .returned (.bool true) ∧ Below w.heap.size w w' := by
  obtain ⟨a1, a2, a3, a4, a5, a6⟩ := hC.img
  obtain ⟨b1, b2, b3, b4, b5, b6⟩ := hD.img
  have hr := Pe.right_of he
  have h1 := hr.many
  have h2 := hr.sigs
  have es : Pe.secs xs = Pe.secs ys := congrArg Pe.Img.secs hi
  have eg : Pe.sigs xs = Pe.sigs ys := congrArg Pe.Img.sigs hi
  rw [← hi] at b1 b2 b3 b4 b5 b6
  obtain ⟨A4, c4, e4, r4⟩ := hC.secs.rdS
  have hDs := hD.secs
  rw [← es] at hDs
  obtain ⟨B4, d4, f4, q4⟩ := hDs.rdS
  obtain ⟨l7, g7, k7⟩ := hC.sigs
  obtain ⟨m7, i7, j7⟩ := hD.sigs
  obtain ⟨A7, c7, e7, r7⟩ := g7.rdL
  obtain ⟨B7, d7, f7, q7⟩ := i7.rdL
  have hlen : m7.length = l7.length := by
    have := congrArg List.length (k7.trans (eg.trans j7.symm))
    simpa using this.symm
  rw [hlen] at f7 q7
  have hs8 : l7.length ≤ 8 := by
    have : (Pe.sigs xs).length = l7.length := by rw [← k7, List.length_map]
    omega
  obtain ⟨pl, ck, dr, hd, v4, tb, ln, v7⟩ := C
  obtain ⟨pl', ck', dr', hd', v4', tb', ln', v7'⟩ := D
  dsimp only at a1 a2 a3 a4 a5 a6 b1 b2 b3 b4 b5 b6 e4 f4 e7 f7
  subst e4 f4 e7 f7
  obtain rfl := b1.trans a1.symm
  obtain rfl := b2.trans a2.symm
  obtain rfl := b3.trans a3.symm
  obtain rfl := b4.trans a4.symm
  obtain rfl := b5.trans a5.symm
  obtain rfl := b6.trans a6.symm
  exact same_any _ _ _ _ _ _ _ _ _ _ _ _ _ _ _ _ (Pe.secs xs) l7 m7 w (by omega) (by omega) r4 q4 r7 q7 (k7.trans (eg.trans j7.symm))
theorem ImgOwn.later {xs : List UInt8} {C : IV} {lo : Nat} {w w' : World} (h : ImgOwn xs C lo w) (hb : Below w.heap.size w w') : ImgOwn xs C lo w' := by
  obtain ⟨l, hs, hl'⟩ := h.sigs
  exact ⟨h.nums, (h.secs.below hb (Nat.le_refl _)).mono (Nat.le_refl _) hb.size, l, hs.below hb, hl'⟩
end Go.Proofs.YtedlpcioegbmfaaDoor
