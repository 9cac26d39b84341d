/- What the reference's Parse answers; Same, at the program's image and the reference's. -/
import Derived.Test.YtlfajfmkljnodaaDoorPeFr
import Derived.Test.YtlfajfmkljnodaaDoorPeR3
namespace Go.Proofs.YtlfajfmkljnodaaDoor
open Go.RowKit
set_option maxRecDepth 100000
set_option linter.unusedVariables false
set_option linter.unusedSimpArgs false
/-- An image that the reference tells, in memory. -/
structure ImgRd (xs : List UInt8) (C : IV) (lo : Nat) (W : World) : Prop where
  nums : C.plus = Pe.plus xs ∧ C.check = Pe.opt xs + 64 ∧ C.dir = Pe.dirs xs + 32 ∧ C.headers = Pe.headers xs ∧ C.table = (if Pe.bare xs then 0 else Pe.from_ xs) ∧ C.length = (if Pe.bare xs then 0 else Pe.length xs)
  secs : OwnC 43 2 W lo W.heap.size C.secs (Pe.secs xs).length ((Pe.secs xs).flatMap secC)
  sigs : ∃ l, XS W lo C.sigs l ∧ l.map (·.2) = Pe.sigs xs
theorem ImgRd.img {xs : List UInt8} {C : IV} {lo : Nat} {W : World} (h : ImgRd xs C lo W) : C.plus = (Pe.img xs).plus ∧ C.check = (Pe.img xs).check ∧ C.dir = (Pe.img xs).dir ∧ C.headers = (Pe.img xs).headers ∧ C.table = (Pe.img xs).table ∧ C.length = (Pe.img xs).length := h.nums
theorem ImgRd.later {xs : List UInt8} {C : IV} {lo : Nat} {w w' : World} (h : ImgRd xs C lo w) (hb : Below w.heap.size w w') : ImgRd xs C lo w' := by
  obtain ⟨l, hs, hl'⟩ := h.sigs
  exact ⟨h.nums, (h.secs.below hb (Nat.le_refl _)).mono (Nat.le_refl _) hb.size, l, hs.below hb, hl'⟩
/-- What the reference's Parse answers. -/
def RefOut (xs : List UInt8) (w : World) (e : Ending) (w' : World) : Prop :=
  Below w.heap.size w w' ∧ ∃ C : IV, e = .returned (.tuple #[C.val, .int .i64 (Pe.err xs : Int)]) ∧ C.One ∧ (Pe.err xs ≠ 0 → C = IV.zero) ∧ (Pe.err xs = 0 → ImgRd xs C w.heap.size w')
/-- Same, at two images that tell the same. -/
theorem same_rd {xs ys : List UInt8} {C D : IV} {lo lo' : Nat} {w : World} (hC : ImgOwn xs C lo w) (hD : ImgRd ys D lo' w) (he : Pe.err xs = 0) (hi : Pe.img xs = Pe.img ys) :
    Calls Tryd.prog 14 #[C.val, D.val] w fun e w' => e = .returned (.bool true) ∧ Below w.heap.size w w' := by
  obtain ⟨a1, a2, a3, a4, a5, a6⟩ := hC.img
  obtain ⟨b1, b2, b3, b4, b5, b6⟩ := hD.img
  have hr := Pe.right_of he
  have h1 := hr.many
  have h2 := hr.sigs
  have es : Pe.secs xs = Pe.secs ys := congrArg Pe.Img.secs hi
  have eg : Pe.sigs xs = Pe.sigs ys := congrArg Pe.Img.sigs hi
  rw [← hi] at b1 b2 b3 b4 b5 b6
  obtain ⟨A4, c4, e4, r4⟩ := hC.secs.rdS
  have hDs := hD.secs
  rw [← es] at hDs
  obtain ⟨B4, d4, f4, q4⟩ := hDs.rdS
  obtain ⟨l7, g7, k7⟩ := hC.sigs
  obtain ⟨m7, i7, j7⟩ := hD.sigs
  obtain ⟨A7, c7, e7, r7⟩ := g7.rdL
  obtain ⟨B7, d7, f7, q7⟩ := i7.rdl
  have hlen : m7.length = l7.length := by
    have := congrArg List.length (k7.trans (eg.trans j7.symm))
    simpa using this.symm
  rw [hlen] at f7 q7
  have hs8 : l7.length ≤ 8 := by
    have : (Pe.sigs xs).length = l7.length := by rw [← k7, List.length_map]
    omega
  obtain ⟨pl, ck, dr, hd, v4, tb, ln, v7⟩ := C
  obtain ⟨pl', ck', dr', hd', v4', tb', ln', v7'⟩ := D
  dsimp only at a1 a2 a3 a4 a5 a6 b1 b2 b3 b4 b5 b6 e4 f4 e7 f7
  subst e4 f4 e7 f7
  obtain rfl := b1.trans a1.symm
  obtain rfl := b2.trans a2.symm
  obtain rfl := b3.trans a3.symm
  obtain rfl := b4.trans a4.symm
  obtain rfl := b5.trans a5.symm
  obtain rfl := b6.trans a6.symm
  exact same_any _ _ _ _ _ _ _ _ _ _ _ _ _ _ _ _ (Pe.secs xs) l7 m7 w (by omega) (by omega) r4 q4 r7 q7 (k7.trans (eg.trans j7.symm))
end Go.Proofs.YtlfajfmkljnodaaDoor
