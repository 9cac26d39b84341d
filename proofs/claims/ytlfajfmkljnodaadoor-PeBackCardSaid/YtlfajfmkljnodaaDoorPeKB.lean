/- What PeBack's walk knows. -/
import Derived.Test.YtlfajfmkljnodaaDoorPeWorks
import Derived.Test.YtlfajfmkljnodaaDoorPeFr
namespace Go.Proofs.YtlfajfmkljnodaaDoor
open Go.RowKit
set_option maxRecDepth 100000
set_option linter.unusedVariables false
set_option linter.unusedSimpArgs false

structure BK (S : Pe.Shape) (b more : List UInt8) (w w5 : World) (V1 : ShV) (C : IV) (xb ib lo lo3 : Nat) (A3 : Option Addr) (n3 c3 : Nat) (Am : Option Addr) (nm cm : Nat) : Prop where
  ho : S.Ok
  read : Pe.Read S b
  err : Pe.err b = 0
  img : Pe.img b = S.img
  wr : Pe.write S = b
  h8 : S.sigs.length ≤ 8
  len : b.length = n3
  small : b.length ≤ 11100
  facts : ∀ W, Below w5.heap.size w5 W → Bs W xb V1 ∧ ShRd W w5.heap.size V1 S ∧ OwnB W lo3 w5.heap.size (.slice A3 n3 c3) b ∧ Bi W ib C ∧ ImgOwn b C lo W
  bel : Below w.heap.size w w5
  lo3_ : w.heap.size ≤ lo3 ∧ lo3 ≤ w5.heap.size
  sn : SN S C
  more_ : Rd w w.heap.size Am nm cm more
  nm_ : nm ≤ 100
theorem Pe.secs_len_of {S : Pe.Shape} {b : List UInt8} (h : Pe.img b = S.img) : Pe.secs b = S.secs := congrArg Pe.Img.secs h
theorem Pe.sigs_of {S : Pe.Shape} {b : List UInt8} (h : Pe.img b = S.img) : Pe.sigs b = S.sigs := congrArg Pe.Img.sigs h
end Go.Proofs.YtlfajfmkljnodaaDoor
