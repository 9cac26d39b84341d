/- A case in memory. -/
import Derived.Test.YtmnekhliblkibaaGQ
import Derived.Test.YtmnekhliblkibaaGS
import Derived.Test.YtmnekhliblkibaaOpenCase
namespace Go.Proofs.Ytmnekhliblkibaa
open Go.RowKit
set_option maxRecDepth 1000000
set_option linter.unusedVariables false
set_option linter.unusedSimpArgs false

def Kase.row (k : Kase) (v0 v1 v2 : Value) : Array Value := #[v0, v1, v2, .string ⟨k.iss.toArray⟩, .string ⟨k.sub.toArray⟩,
  .int .u16 (k.from_.y : Int), .int .u8 (k.from_.mo : Int), .int .u8 (k.from_.d : Int), .int .u8 (k.from_.h : Int), .int .u8 (k.from_.mi : Int), .int .u8 (k.from_.s : Int),
  .int .u16 (k.to.y : Int), .int .u8 (k.to.mo : Int), .int .u8 (k.to.d : Int), .int .u8 (k.to.h : Int), .int .u8 (k.to.mi : Int), .int .u8 (k.to.s : Int),
  .int .u64 (k.e : Int), .bool k.ca, .bool k.code, .int .u8 (k.path : Int), .int .u8 (k.usage : Int)]
/-- A case without extensions. -/
def Kase.plain (k : Kase) : Kase := {k with ca := false, usage := 0, code := true}
end Go.Proofs.Ytmnekhliblkibaa
