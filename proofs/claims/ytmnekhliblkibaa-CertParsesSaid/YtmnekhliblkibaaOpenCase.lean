/- Arguments opened: a case that came in. -/
import Derived.Test.YtmnekhliblkibaaGR
import Derived.Test.YtmnekhliblkibaaGP
import Derived.ProofKit
import Derived.OpenShut
import Derived.KernelRfl
namespace Go.Proofs.Ytmnekhliblkibaa
open Go.ChangeShapes Go.WideShapes Go.ChangeAt Go.RowKit
set_option maxRecDepth 100000

section
variable {H : Type} {enc : TypeId × Value → H} {W : World} {fuel : Nat} {cs : List Value} {x : DataW H × List MemPlace}
end
/-- What a case that came in is. -/
structure Kase.come (k : Kase) (W : World) (A0 A1 A2 : Option Addr) (n0 c0 n1 c1 n2 c2 : Nat) : Prop where
  r0 : Rd W W.heap.size A0 n0 c0 k.ser
  r1 : Rd W W.heap.size A1 n1 c1 k.n
  r2 : Rd W W.heap.size A2 n2 c2 k.sig
  iss : k.iss.length ≤ 9223372036854775807
  sub : k.sub.length ≤ 9223372036854775807
  from_ : k.from_.fits
  to : k.to.fits
  e : k.e < 18446744073709551616
  path : k.path < 256
  usage : k.usage < 256
end Go.Proofs.Ytmnekhliblkibaa
