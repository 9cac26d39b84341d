/-
  NARROWER THAN 'FOR EVERY INPUT', by the rows' own cells (each row's printed sentence says how): CmsParses: laid · CmsIndirect: laid · CmsBack: laid · CmsDigest: laid · CmsSigners: laid · CmsCerts: laid · CmsOrder: laid · CmsAttributes: laid · CmsMethods: laid · CmsVersions: laid · CmsContents: laid.
  DERIVED. THE GIVEN ROWS OF THIS SEAT. 11 by the template 'for every input the law returns true; each argument reads behind the call as it read before'; 0 by the template 'total and deterministic' (their statements: YtmpkpphfoidbeaaGreatDoorTotals.lean).
  GIVEN WITH THE SEED: the statements are not yours to turn. If you find one false, say at which input.
  Laid BY PROGRAM, IN A SANDBOX (cutbox-rows.mjs): the forced cells as the released guide's own fill.sh prints them over the translation 76ae717b109c97f2… (all of the seat's roots in one cut). By AI agents, Wed Nov 11 2026. No macro, syntax, notation, axiom, sorry.
-/
import Derived.Test.YtmpkpphfoidbeaaGreatDoorChecked
import GoSem.Claim
import GoSem.ClaimJoined
import GoSem.ClaimMapViews
import Derived.JoinedTies
import Derived.KernelRfl
namespace Go.Proofs.YtmpkpphfoidbeaaGreatDoor
/- THE CELL 'sum', in the pinned program and in every row, IS THE sha256 OF THE DUMP (.gsa) THAT YtmpkpphfoidbeaaGreatDoorProg.lean LOADS. Nothing in Lean hashes anything: it is a label: what it is worth is what the hold of that sum in a sandbox is worth. -/
noncomputable def Tryz.pinned : Pinned := { name := "ytmpkpphfoidbeaagreatdoor", sum := "76ae717b109c97f2a7f7455c788b4640901c8103ad19b05ea4b63cdd357812df", checked := Tryz.checked }
namespace Rows
def none {H : Type} : Left H := { results := [], args := [] }

/- WHAT THE LISTED PACKAGE-LEVEL VARIABLES READ AS WHEN THE CALL BEGINS. Each datum BY PROGRAM (the guide's laid-datum.mjs) off the statement by which the dump's own 'gosem.cut.vars' lays the variable. In a bare row this is a premise. The card (YtmpkpphfoidbeaaGreatDoorCards.lean) ties it to the program's text. -/
def laid_lintel_cms_hashes {H : Type} : DataW H := .agg [.lit (.int .u64 2), .lit (.int .u64 16), .lit (.int .u64 840), .lit (.int .u64 1), .lit (.int .u64 101), .lit (.int .u64 3), .lit (.int .u64 4), .lit (.int .u64 2), .lit (.int .u64 1)]
def laid_lintel_cms_ciphers {H : Type} : DataW H := .agg [.lit (.int .u64 1), .lit (.int .u64 2), .lit (.int .u64 840), .lit (.int .u64 113549), .lit (.int .u64 1), .lit (.int .u64 1), .lit (.int .u64 1)]
def laid_lintel_cms_wrapped {H : Type} : DataW H := .agg [.lit (.int .u64 1), .lit (.int .u64 2), .lit (.int .u64 840), .lit (.int .u64 113549), .lit (.int .u64 1), .lit (.int .u64 7), .lit (.int .u64 2)]
def laid_lintel_cms_kinds {H : Type} : DataW H := .agg [.lit (.int .u64 1), .lit (.int .u64 2), .lit (.int .u64 840), .lit (.int .u64 113549), .lit (.int .u64 1), .lit (.int .u64 9), .lit (.int .u64 3)]
def laid_lintel_cms_digests {H : Type} : DataW H := .agg [.lit (.int .u64 1), .lit (.int .u64 2), .lit (.int .u64 840), .lit (.int .u64 113549), .lit (.int .u64 1), .lit (.int .u64 9), .lit (.int .u64 4)]
def laid_lintel_cms_peImages {H : Type} : DataW H := .agg [.lit (.int .u64 1), .lit (.int .u64 3), .lit (.int .u64 6), .lit (.int .u64 1), .lit (.int .u64 4), .lit (.int .u64 1), .lit (.int .u64 311), .lit (.int .u64 2), .lit (.int .u64 1), .lit (.int .u64 15)]

/-- 'lintellaw14.CmsParses': WHATEVER THE INPUT: true; the input reads as it did. -/
def cmsParsesSpec : ChangeSpec := { name := "cmsParses", fn := fun _ => fun
  | [d] => { results := [.lit (.bool true)], args := [d] }
  | _ => none }
def cmsParsesRow : OpenClaim := { program := "ytmpkpphfoidbeaagreatdoor", sum := "76ae717b109c97f2a7f7455c788b4640901c8103ad19b05ea4b63cdd357812df", func := "lintel/lintellaw14.CmsParses", spec := "cmsParses", inPlace := ["internal/bytealg.Compare"], unfollowed := true, recurses := true, named := ["lintel/cms.wrapped", "lintel/cms.hashes", "lintel/cms.kinds", "lintel/cms.digests", "lintel/cms.ciphers", "lintel/cms.peImages"], apart := false, laid := [("lintel/cms.hashes", laid_lintel_cms_hashes), ("lintel/cms.ciphers", laid_lintel_cms_ciphers), ("lintel/cms.wrapped", laid_lintel_cms_wrapped), ("lintel/cms.kinds", laid_lintel_cms_kinds), ("lintel/cms.digests", laid_lintel_cms_digests), ("lintel/cms.peImages", laid_lintel_cms_peImages)] }
def CmsParsesSaid : Prop := cmsParsesRow.holds Tryz.pinned (OpenSpec.ofChange cmsParsesSpec)

/-- ITS FALSE NEIGHBOUR: 'it returns false'. Refute it at one input. -/
def cmsParsesWrong : ChangeSpec := { name := "cmsParses", fn := fun _ => fun
  | [d] => { results := [.lit (.bool false)], args := [d] }
  | _ => none }
def CmsParsesWrongFalsely : Prop := cmsParsesRow.holds Tryz.pinned (OpenSpec.ofChange cmsParsesWrong)

/-- 'lintellaw14.CmsIndirect': WHATEVER THE INPUT: true; the input reads as it did. -/
def cmsIndirectSpec : ChangeSpec := { name := "cmsIndirect", fn := fun _ => fun
  | [d] => { results := [.lit (.bool true)], args := [d] }
  | _ => none }
def cmsIndirectRow : OpenClaim := { program := "ytmpkpphfoidbeaagreatdoor", sum := "76ae717b109c97f2a7f7455c788b4640901c8103ad19b05ea4b63cdd357812df", func := "lintel/lintellaw14.CmsIndirect", spec := "cmsIndirect", inPlace := ["internal/bytealg.Compare"], unfollowed := true, recurses := true, named := ["lintel/cms.wrapped", "lintel/cms.hashes", "lintel/cms.kinds", "lintel/cms.digests", "lintel/cms.ciphers", "lintel/cms.peImages"], apart := false, laid := [("lintel/cms.hashes", laid_lintel_cms_hashes), ("lintel/cms.ciphers", laid_lintel_cms_ciphers), ("lintel/cms.wrapped", laid_lintel_cms_wrapped), ("lintel/cms.kinds", laid_lintel_cms_kinds), ("lintel/cms.digests", laid_lintel_cms_digests), ("lintel/cms.peImages", laid_lintel_cms_peImages)] }
def CmsIndirectSaid : Prop := cmsIndirectRow.holds Tryz.pinned (OpenSpec.ofChange cmsIndirectSpec)

/-- ITS FALSE NEIGHBOUR: 'it returns false'. Refute it at one input. -/
def cmsIndirectWrong : ChangeSpec := { name := "cmsIndirect", fn := fun _ => fun
  | [d] => { results := [.lit (.bool false)], args := [d] }
  | _ => none }
def CmsIndirectWrongFalsely : Prop := cmsIndirectRow.holds Tryz.pinned (OpenSpec.ofChange cmsIndirectWrong)

/-- 'lintellaw14.CmsBack': WHATEVER THE INPUT: true; the input reads as it did. -/
def cmsBackSpec : ChangeSpec := { name := "cmsBack", fn := fun _ => fun
  | [d1, d2, d3] => { results := [.lit (.bool true)], args := [d1, d2, d3] }
  | _ => none }
def cmsBackRow : OpenClaim := { program := "ytmpkpphfoidbeaagreatdoor", sum := "76ae717b109c97f2a7f7455c788b4640901c8103ad19b05ea4b63cdd357812df", func := "lintel/lintellaw14.CmsBack", spec := "cmsBack", inPlace := ["internal/bytealg.Compare"], unfollowed := true, recurses := true, named := ["lintel/cms.wrapped", "lintel/cms.hashes", "lintel/cms.kinds", "lintel/cms.digests", "lintel/cms.ciphers", "lintel/cms.peImages"], apart := false, laid := [("lintel/cms.hashes", laid_lintel_cms_hashes), ("lintel/cms.ciphers", laid_lintel_cms_ciphers), ("lintel/cms.wrapped", laid_lintel_cms_wrapped), ("lintel/cms.kinds", laid_lintel_cms_kinds), ("lintel/cms.digests", laid_lintel_cms_digests), ("lintel/cms.peImages", laid_lintel_cms_peImages)] }
def CmsBackSaid : Prop := cmsBackRow.holds Tryz.pinned (OpenSpec.ofChange cmsBackSpec)

/-- ITS FALSE NEIGHBOUR: 'it returns false'. Refute it at one input. -/
def cmsBackWrong : ChangeSpec := { name := "cmsBack", fn := fun _ => fun
  | [d1, d2, d3] => { results := [.lit (.bool false)], args := [d1, d2, d3] }
  | _ => none }
def CmsBackWrongFalsely : Prop := cmsBackRow.holds Tryz.pinned (OpenSpec.ofChange cmsBackWrong)

/-- 'lintellaw14.CmsDigest': WHATEVER THE INPUT: true; the input reads as it did. -/
def cmsDigestSpec : ChangeSpec := { name := "cmsDigest", fn := fun _ => fun
  | [d1, d2, d3] => { results := [.lit (.bool true)], args := [d1, d2, d3] }
  | _ => none }
def cmsDigestRow : OpenClaim := { program := "ytmpkpphfoidbeaagreatdoor", sum := "76ae717b109c97f2a7f7455c788b4640901c8103ad19b05ea4b63cdd357812df", func := "lintel/lintellaw14.CmsDigest", spec := "cmsDigest", inPlace := ["internal/bytealg.Compare"], unfollowed := true, recurses := true, named := ["lintel/cms.peImages", "lintel/cms.hashes", "lintel/cms.wrapped", "lintel/cms.kinds", "lintel/cms.digests", "lintel/cms.ciphers"], apart := false, laid := [("lintel/cms.hashes", laid_lintel_cms_hashes), ("lintel/cms.ciphers", laid_lintel_cms_ciphers), ("lintel/cms.wrapped", laid_lintel_cms_wrapped), ("lintel/cms.kinds", laid_lintel_cms_kinds), ("lintel/cms.digests", laid_lintel_cms_digests), ("lintel/cms.peImages", laid_lintel_cms_peImages)] }
def CmsDigestSaid : Prop := cmsDigestRow.holds Tryz.pinned (OpenSpec.ofChange cmsDigestSpec)

/-- ITS FALSE NEIGHBOUR: 'it returns false'. Refute it at one input. -/
def cmsDigestWrong : ChangeSpec := { name := "cmsDigest", fn := fun _ => fun
  | [d1, d2, d3] => { results := [.lit (.bool false)], args := [d1, d2, d3] }
  | _ => none }
def CmsDigestWrongFalsely : Prop := cmsDigestRow.holds Tryz.pinned (OpenSpec.ofChange cmsDigestWrong)

/-- 'lintellaw14.CmsSigners': WHATEVER THE INPUT: true; the input reads as it did. -/
def cmsSignersSpec : ChangeSpec := { name := "cmsSigners", fn := fun _ => fun
  | [d1, d2] => { results := [.lit (.bool true)], args := [d1, d2] }
  | _ => none }
def cmsSignersRow : OpenClaim := { program := "ytmpkpphfoidbeaagreatdoor", sum := "76ae717b109c97f2a7f7455c788b4640901c8103ad19b05ea4b63cdd357812df", func := "lintel/lintellaw14.CmsSigners", spec := "cmsSigners", inPlace := ["internal/bytealg.Compare"], unfollowed := true, recurses := true, named := ["lintel/cms.wrapped", "lintel/cms.hashes", "lintel/cms.kinds", "lintel/cms.digests", "lintel/cms.ciphers", "lintel/cms.peImages"], apart := false, laid := [("lintel/cms.hashes", laid_lintel_cms_hashes), ("lintel/cms.ciphers", laid_lintel_cms_ciphers), ("lintel/cms.wrapped", laid_lintel_cms_wrapped), ("lintel/cms.kinds", laid_lintel_cms_kinds), ("lintel/cms.digests", laid_lintel_cms_digests), ("lintel/cms.peImages", laid_lintel_cms_peImages)] }
def CmsSignersSaid : Prop := cmsSignersRow.holds Tryz.pinned (OpenSpec.ofChange cmsSignersSpec)

/-- ITS FALSE NEIGHBOUR: 'it returns false'. Refute it at one input. -/
def cmsSignersWrong : ChangeSpec := { name := "cmsSigners", fn := fun _ => fun
  | [d1, d2] => { results := [.lit (.bool false)], args := [d1, d2] }
  | _ => none }
def CmsSignersWrongFalsely : Prop := cmsSignersRow.holds Tryz.pinned (OpenSpec.ofChange cmsSignersWrong)

/-- 'lintellaw14.CmsCerts': WHATEVER THE INPUT: true; the input reads as it did. -/
def cmsCertsSpec : ChangeSpec := { name := "cmsCerts", fn := fun _ => fun
  | [d1, d2] => { results := [.lit (.bool true)], args := [d1, d2] }
  | _ => none }
def cmsCertsRow : OpenClaim := { program := "ytmpkpphfoidbeaagreatdoor", sum := "76ae717b109c97f2a7f7455c788b4640901c8103ad19b05ea4b63cdd357812df", func := "lintel/lintellaw14.CmsCerts", spec := "cmsCerts", inPlace := ["internal/bytealg.Compare"], unfollowed := true, recurses := true, named := ["lintel/cms.wrapped", "lintel/cms.hashes", "lintel/cms.kinds", "lintel/cms.digests", "lintel/cms.ciphers", "lintel/cms.peImages"], apart := false, laid := [("lintel/cms.hashes", laid_lintel_cms_hashes), ("lintel/cms.ciphers", laid_lintel_cms_ciphers), ("lintel/cms.wrapped", laid_lintel_cms_wrapped), ("lintel/cms.kinds", laid_lintel_cms_kinds), ("lintel/cms.digests", laid_lintel_cms_digests), ("lintel/cms.peImages", laid_lintel_cms_peImages)] }
def CmsCertsSaid : Prop := cmsCertsRow.holds Tryz.pinned (OpenSpec.ofChange cmsCertsSpec)

/-- ITS FALSE NEIGHBOUR: 'it returns false'. Refute it at one input. -/
def cmsCertsWrong : ChangeSpec := { name := "cmsCerts", fn := fun _ => fun
  | [d1, d2] => { results := [.lit (.bool false)], args := [d1, d2] }
  | _ => none }
def CmsCertsWrongFalsely : Prop := cmsCertsRow.holds Tryz.pinned (OpenSpec.ofChange cmsCertsWrong)

/-- 'lintellaw14.CmsOrder': WHATEVER THE INPUT: true; the input reads as it did. -/
def cmsOrderSpec : ChangeSpec := { name := "cmsOrder", fn := fun _ => fun
  | [d1, d2] => { results := [.lit (.bool true)], args := [d1, d2] }
  | _ => none }
def cmsOrderRow : OpenClaim := { program := "ytmpkpphfoidbeaagreatdoor", sum := "76ae717b109c97f2a7f7455c788b4640901c8103ad19b05ea4b63cdd357812df", func := "lintel/lintellaw14.CmsOrder", spec := "cmsOrder", inPlace := ["internal/bytealg.Compare"], unfollowed := true, recurses := true, named := ["lintel/cms.wrapped", "lintel/cms.hashes", "lintel/cms.kinds", "lintel/cms.digests", "lintel/cms.ciphers", "lintel/cms.peImages"], apart := false, laid := [("lintel/cms.hashes", laid_lintel_cms_hashes), ("lintel/cms.ciphers", laid_lintel_cms_ciphers), ("lintel/cms.wrapped", laid_lintel_cms_wrapped), ("lintel/cms.kinds", laid_lintel_cms_kinds), ("lintel/cms.digests", laid_lintel_cms_digests), ("lintel/cms.peImages", laid_lintel_cms_peImages)] }
def CmsOrderSaid : Prop := cmsOrderRow.holds Tryz.pinned (OpenSpec.ofChange cmsOrderSpec)

/-- ITS FALSE NEIGHBOUR: 'it returns false'. Refute it at one input. -/
def cmsOrderWrong : ChangeSpec := { name := "cmsOrder", fn := fun _ => fun
  | [d1, d2] => { results := [.lit (.bool false)], args := [d1, d2] }
  | _ => none }
def CmsOrderWrongFalsely : Prop := cmsOrderRow.holds Tryz.pinned (OpenSpec.ofChange cmsOrderWrong)

/-- 'lintellaw14.CmsAttributes': WHATEVER THE INPUT: true; the input reads as it did. -/
def cmsAttributesSpec : ChangeSpec := { name := "cmsAttributes", fn := fun _ => fun
  | [d] => { results := [.lit (.bool true)], args := [d] }
  | _ => none }
def cmsAttributesRow : OpenClaim := { program := "ytmpkpphfoidbeaagreatdoor", sum := "76ae717b109c97f2a7f7455c788b4640901c8103ad19b05ea4b63cdd357812df", func := "lintel/lintellaw14.CmsAttributes", spec := "cmsAttributes", inPlace := ["internal/bytealg.Compare"], unfollowed := true, recurses := true, named := ["lintel/cms.wrapped", "lintel/cms.hashes", "lintel/cms.kinds", "lintel/cms.digests", "lintel/cms.ciphers", "lintel/cms.peImages"], apart := false, laid := [("lintel/cms.hashes", laid_lintel_cms_hashes), ("lintel/cms.ciphers", laid_lintel_cms_ciphers), ("lintel/cms.wrapped", laid_lintel_cms_wrapped), ("lintel/cms.kinds", laid_lintel_cms_kinds), ("lintel/cms.digests", laid_lintel_cms_digests), ("lintel/cms.peImages", laid_lintel_cms_peImages)] }
def CmsAttributesSaid : Prop := cmsAttributesRow.holds Tryz.pinned (OpenSpec.ofChange cmsAttributesSpec)

/-- ITS FALSE NEIGHBOUR: 'it returns false'. Refute it at one input. -/
def cmsAttributesWrong : ChangeSpec := { name := "cmsAttributes", fn := fun _ => fun
  | [d] => { results := [.lit (.bool false)], args := [d] }
  | _ => none }
def CmsAttributesWrongFalsely : Prop := cmsAttributesRow.holds Tryz.pinned (OpenSpec.ofChange cmsAttributesWrong)

/-- 'lintellaw14.CmsMethods': WHATEVER THE INPUT: true; the input reads as it did. -/
def cmsMethodsSpec : ChangeSpec := { name := "cmsMethods", fn := fun _ => fun
  | [d1, d2, d3] => { results := [.lit (.bool true)], args := [d1, d2, d3] }
  | _ => none }
def cmsMethodsRow : OpenClaim := { program := "ytmpkpphfoidbeaagreatdoor", sum := "76ae717b109c97f2a7f7455c788b4640901c8103ad19b05ea4b63cdd357812df", func := "lintel/lintellaw14.CmsMethods", spec := "cmsMethods", inPlace := ["internal/bytealg.Compare"], unfollowed := true, recurses := true, named := ["lintel/cms.wrapped", "lintel/cms.hashes", "lintel/cms.kinds", "lintel/cms.digests", "lintel/cms.ciphers", "lintel/cms.peImages"], apart := false, laid := [("lintel/cms.hashes", laid_lintel_cms_hashes), ("lintel/cms.ciphers", laid_lintel_cms_ciphers), ("lintel/cms.wrapped", laid_lintel_cms_wrapped), ("lintel/cms.kinds", laid_lintel_cms_kinds), ("lintel/cms.digests", laid_lintel_cms_digests), ("lintel/cms.peImages", laid_lintel_cms_peImages)] }
def CmsMethodsSaid : Prop := cmsMethodsRow.holds Tryz.pinned (OpenSpec.ofChange cmsMethodsSpec)

/-- ITS FALSE NEIGHBOUR: 'it returns false'. Refute it at one input. -/
def cmsMethodsWrong : ChangeSpec := { name := "cmsMethods", fn := fun _ => fun
  | [d1, d2, d3] => { results := [.lit (.bool false)], args := [d1, d2, d3] }
  | _ => none }
def CmsMethodsWrongFalsely : Prop := cmsMethodsRow.holds Tryz.pinned (OpenSpec.ofChange cmsMethodsWrong)

/-- 'lintellaw14.CmsVersions': WHATEVER THE INPUT: true; the input reads as it did. -/
def cmsVersionsSpec : ChangeSpec := { name := "cmsVersions", fn := fun _ => fun
  | [d1, d2] => { results := [.lit (.bool true)], args := [d1, d2] }
  | _ => none }
def cmsVersionsRow : OpenClaim := { program := "ytmpkpphfoidbeaagreatdoor", sum := "76ae717b109c97f2a7f7455c788b4640901c8103ad19b05ea4b63cdd357812df", func := "lintel/lintellaw14.CmsVersions", spec := "cmsVersions", inPlace := ["internal/bytealg.Compare"], unfollowed := true, recurses := true, named := ["lintel/cms.wrapped", "lintel/cms.hashes", "lintel/cms.kinds", "lintel/cms.digests", "lintel/cms.ciphers", "lintel/cms.peImages"], apart := false, laid := [("lintel/cms.hashes", laid_lintel_cms_hashes), ("lintel/cms.ciphers", laid_lintel_cms_ciphers), ("lintel/cms.wrapped", laid_lintel_cms_wrapped), ("lintel/cms.kinds", laid_lintel_cms_kinds), ("lintel/cms.digests", laid_lintel_cms_digests), ("lintel/cms.peImages", laid_lintel_cms_peImages)] }
def CmsVersionsSaid : Prop := cmsVersionsRow.holds Tryz.pinned (OpenSpec.ofChange cmsVersionsSpec)

/-- ITS FALSE NEIGHBOUR: 'it returns false'. Refute it at one input. -/
def cmsVersionsWrong : ChangeSpec := { name := "cmsVersions", fn := fun _ => fun
  | [d1, d2] => { results := [.lit (.bool false)], args := [d1, d2] }
  | _ => none }
def CmsVersionsWrongFalsely : Prop := cmsVersionsRow.holds Tryz.pinned (OpenSpec.ofChange cmsVersionsWrong)

/-- 'lintellaw14.CmsContents': WHATEVER THE INPUT: true; the input reads as it did. -/
def cmsContentsSpec : ChangeSpec := { name := "cmsContents", fn := fun _ => fun
  | [d1, d2] => { results := [.lit (.bool true)], args := [d1, d2] }
  | _ => none }
def cmsContentsRow : OpenClaim := { program := "ytmpkpphfoidbeaagreatdoor", sum := "76ae717b109c97f2a7f7455c788b4640901c8103ad19b05ea4b63cdd357812df", func := "lintel/lintellaw14.CmsContents", spec := "cmsContents", inPlace := ["internal/bytealg.Compare"], unfollowed := true, recurses := true, named := ["lintel/cms.wrapped", "lintel/cms.hashes", "lintel/cms.kinds", "lintel/cms.digests", "lintel/cms.ciphers", "lintel/cms.peImages"], apart := false, laid := [("lintel/cms.hashes", laid_lintel_cms_hashes), ("lintel/cms.ciphers", laid_lintel_cms_ciphers), ("lintel/cms.wrapped", laid_lintel_cms_wrapped), ("lintel/cms.kinds", laid_lintel_cms_kinds), ("lintel/cms.digests", laid_lintel_cms_digests), ("lintel/cms.peImages", laid_lintel_cms_peImages)] }
def CmsContentsSaid : Prop := cmsContentsRow.holds Tryz.pinned (OpenSpec.ofChange cmsContentsSpec)

/-- ITS FALSE NEIGHBOUR: 'it returns false'. Refute it at one input. -/
def cmsContentsWrong : ChangeSpec := { name := "cmsContents", fn := fun _ => fun
  | [d1, d2] => { results := [.lit (.bool false)], args := [d1, d2] }
  | _ => none }
def CmsContentsWrongFalsely : Prop := cmsContentsRow.holds Tryz.pinned (OpenSpec.ofChange cmsContentsWrong)

/- THE SECOND FORM. 'bulk': how many values and letters a reading holds, each counted each time it is reached (what is shared counts as often as it is met; a slice's spare places count too). A statement '..UptoSaid' is the law's where the arguments, and the package variables that the reading takes, are together of bulk at most 1048576: NARROWER than '..Said'. Prove '..Said' where nothing that the law and all that it calls make is longer than what came in: it says more and counts as full. Else prove '..UptoSaid'. A law counts once. -/
mutual
def uptoBulk {H : Type} : DataW H → Nat
  | .lit (.string bytes) => bytes.length + 1
  | .lit _ => 1
  | .nil => 1
  | .ptr d => uptoBulk d + 1
  | .slice elems spare => uptoBulkAll elems + uptoBulkAll spare + 1
  | .agg parts => uptoBulkAll parts + 1
  | .iface _ d => uptoBulk d + 1
  | .map entries => uptoBulkEntries entries + 1
  | .held _ => 1
def uptoBulkAll {H : Type} : List (DataW H) → Nat
  | [] => 0
  | d :: r => uptoBulk d + uptoBulkAll r
def uptoBulkEntries {H : Type} : List (Lit × DataW H) → Nat
  | [] => 0
  | x :: r => uptoBulkEntry x + uptoBulkEntries r
def uptoBulkEntry {H : Type} : Lit × DataW H → Nat
  | (.string bytes, d) => bytes.length + uptoBulk d + 1
  | (_, d) => uptoBulk d + 1
 end
def uptoSmall : (H : Type) → List (DataW H) → Bool := fun _ ds => decide (uptoBulkAll ds ≤ 1048576)
def OpenSpec.upto (s : _root_.Go.ChangeSpec) : _root_.Go.OpenSpec := { _root_.Go.OpenSpec.ofChange s with cond := some uptoSmall }

/-- 'lintellaw14.CmsParses', WHERE WHAT IT READS IS OF BULK AT MOST 1048576: true; the input reads as it did. -/
def cmsParsesUptoRow : OpenClaim := { program := "ytmpkpphfoidbeaagreatdoor", sum := "76ae717b109c97f2a7f7455c788b4640901c8103ad19b05ea4b63cdd357812df", func := "lintel/lintellaw14.CmsParses", spec := "cmsParses", inPlace := ["internal/bytealg.Compare"], unfollowed := true, recurses := true, named := ["lintel/cms.wrapped", "lintel/cms.hashes", "lintel/cms.kinds", "lintel/cms.digests", "lintel/cms.ciphers", "lintel/cms.peImages"], apart := false, laid := [("lintel/cms.hashes", laid_lintel_cms_hashes), ("lintel/cms.ciphers", laid_lintel_cms_ciphers), ("lintel/cms.wrapped", laid_lintel_cms_wrapped), ("lintel/cms.kinds", laid_lintel_cms_kinds), ("lintel/cms.digests", laid_lintel_cms_digests), ("lintel/cms.peImages", laid_lintel_cms_peImages)], narrowed := true }
def CmsParsesUptoSaid : Prop := cmsParsesUptoRow.holds Tryz.pinned (OpenSpec.upto cmsParsesSpec)

/-- 'lintellaw14.CmsIndirect', WHERE WHAT IT READS IS OF BULK AT MOST 1048576: true; the input reads as it did. -/
def cmsIndirectUptoRow : OpenClaim := { program := "ytmpkpphfoidbeaagreatdoor", sum := "76ae717b109c97f2a7f7455c788b4640901c8103ad19b05ea4b63cdd357812df", func := "lintel/lintellaw14.CmsIndirect", spec := "cmsIndirect", inPlace := ["internal/bytealg.Compare"], unfollowed := true, recurses := true, named := ["lintel/cms.wrapped", "lintel/cms.hashes", "lintel/cms.kinds", "lintel/cms.digests", "lintel/cms.ciphers", "lintel/cms.peImages"], apart := false, laid := [("lintel/cms.hashes", laid_lintel_cms_hashes), ("lintel/cms.ciphers", laid_lintel_cms_ciphers), ("lintel/cms.wrapped", laid_lintel_cms_wrapped), ("lintel/cms.kinds", laid_lintel_cms_kinds), ("lintel/cms.digests", laid_lintel_cms_digests), ("lintel/cms.peImages", laid_lintel_cms_peImages)], narrowed := true }
def CmsIndirectUptoSaid : Prop := cmsIndirectUptoRow.holds Tryz.pinned (OpenSpec.upto cmsIndirectSpec)

/-- 'lintellaw14.CmsBack', WHERE WHAT IT READS IS OF BULK AT MOST 1048576: true; the input reads as it did. -/
def cmsBackUptoRow : OpenClaim := { program := "ytmpkpphfoidbeaagreatdoor", sum := "76ae717b109c97f2a7f7455c788b4640901c8103ad19b05ea4b63cdd357812df", func := "lintel/lintellaw14.CmsBack", spec := "cmsBack", inPlace := ["internal/bytealg.Compare"], unfollowed := true, recurses := true, named := ["lintel/cms.wrapped", "lintel/cms.hashes", "lintel/cms.kinds", "lintel/cms.digests", "lintel/cms.ciphers", "lintel/cms.peImages"], apart := false, laid := [("lintel/cms.hashes", laid_lintel_cms_hashes), ("lintel/cms.ciphers", laid_lintel_cms_ciphers), ("lintel/cms.wrapped", laid_lintel_cms_wrapped), ("lintel/cms.kinds", laid_lintel_cms_kinds), ("lintel/cms.digests", laid_lintel_cms_digests), ("lintel/cms.peImages", laid_lintel_cms_peImages)], narrowed := true }
def CmsBackUptoSaid : Prop := cmsBackUptoRow.holds Tryz.pinned (OpenSpec.upto cmsBackSpec)

/-- 'lintellaw14.CmsDigest', WHERE WHAT IT READS IS OF BULK AT MOST 1048576: true; the input reads as it did. -/
def cmsDigestUptoRow : OpenClaim := { program := "ytmpkpphfoidbeaagreatdoor", sum := "76ae717b109c97f2a7f7455c788b4640901c8103ad19b05ea4b63cdd357812df", func := "lintel/lintellaw14.CmsDigest", spec := "cmsDigest", inPlace := ["internal/bytealg.Compare"], unfollowed := true, recurses := true, named := ["lintel/cms.peImages", "lintel/cms.hashes", "lintel/cms.wrapped", "lintel/cms.kinds", "lintel/cms.digests", "lintel/cms.ciphers"], apart := false, laid := [("lintel/cms.hashes", laid_lintel_cms_hashes), ("lintel/cms.ciphers", laid_lintel_cms_ciphers), ("lintel/cms.wrapped", laid_lintel_cms_wrapped), ("lintel/cms.kinds", laid_lintel_cms_kinds), ("lintel/cms.digests", laid_lintel_cms_digests), ("lintel/cms.peImages", laid_lintel_cms_peImages)], narrowed := true }
def CmsDigestUptoSaid : Prop := cmsDigestUptoRow.holds Tryz.pinned (OpenSpec.upto cmsDigestSpec)

/-- 'lintellaw14.CmsSigners', WHERE WHAT IT READS IS OF BULK AT MOST 1048576: true; the input reads as it did. -/
def cmsSignersUptoRow : OpenClaim := { program := "ytmpkpphfoidbeaagreatdoor", sum := "76ae717b109c97f2a7f7455c788b4640901c8103ad19b05ea4b63cdd357812df", func := "lintel/lintellaw14.CmsSigners", spec := "cmsSigners", inPlace := ["internal/bytealg.Compare"], unfollowed := true, recurses := true, named := ["lintel/cms.wrapped", "lintel/cms.hashes", "lintel/cms.kinds", "lintel/cms.digests", "lintel/cms.ciphers", "lintel/cms.peImages"], apart := false, laid := [("lintel/cms.hashes", laid_lintel_cms_hashes), ("lintel/cms.ciphers", laid_lintel_cms_ciphers), ("lintel/cms.wrapped", laid_lintel_cms_wrapped), ("lintel/cms.kinds", laid_lintel_cms_kinds), ("lintel/cms.digests", laid_lintel_cms_digests), ("lintel/cms.peImages", laid_lintel_cms_peImages)], narrowed := true }
def CmsSignersUptoSaid : Prop := cmsSignersUptoRow.holds Tryz.pinned (OpenSpec.upto cmsSignersSpec)

/-- 'lintellaw14.CmsCerts', WHERE WHAT IT READS IS OF BULK AT MOST 1048576: true; the input reads as it did. -/
def cmsCertsUptoRow : OpenClaim := { program := "ytmpkpphfoidbeaagreatdoor", sum := "76ae717b109c97f2a7f7455c788b4640901c8103ad19b05ea4b63cdd357812df", func := "lintel/lintellaw14.CmsCerts", spec := "cmsCerts", inPlace := ["internal/bytealg.Compare"], unfollowed := true, recurses := true, named := ["lintel/cms.wrapped", "lintel/cms.hashes", "lintel/cms.kinds", "lintel/cms.digests", "lintel/cms.ciphers", "lintel/cms.peImages"], apart := false, laid := [("lintel/cms.hashes", laid_lintel_cms_hashes), ("lintel/cms.ciphers", laid_lintel_cms_ciphers), ("lintel/cms.wrapped", laid_lintel_cms_wrapped), ("lintel/cms.kinds", laid_lintel_cms_kinds), ("lintel/cms.digests", laid_lintel_cms_digests), ("lintel/cms.peImages", laid_lintel_cms_peImages)], narrowed := true }
def CmsCertsUptoSaid : Prop := cmsCertsUptoRow.holds Tryz.pinned (OpenSpec.upto cmsCertsSpec)

/-- 'lintellaw14.CmsOrder', WHERE WHAT IT READS IS OF BULK AT MOST 1048576: true; the input reads as it did. -/
def cmsOrderUptoRow : OpenClaim := { program := "ytmpkpphfoidbeaagreatdoor", sum := "76ae717b109c97f2a7f7455c788b4640901c8103ad19b05ea4b63cdd357812df", func := "lintel/lintellaw14.CmsOrder", spec := "cmsOrder", inPlace := ["internal/bytealg.Compare"], unfollowed := true, recurses := true, named := ["lintel/cms.wrapped", "lintel/cms.hashes", "lintel/cms.kinds", "lintel/cms.digests", "lintel/cms.ciphers", "lintel/cms.peImages"], apart := false, laid := [("lintel/cms.hashes", laid_lintel_cms_hashes), ("lintel/cms.ciphers", laid_lintel_cms_ciphers), ("lintel/cms.wrapped", laid_lintel_cms_wrapped), ("lintel/cms.kinds", laid_lintel_cms_kinds), ("lintel/cms.digests", laid_lintel_cms_digests), ("lintel/cms.peImages", laid_lintel_cms_peImages)], narrowed := true }
def CmsOrderUptoSaid : Prop := cmsOrderUptoRow.holds Tryz.pinned (OpenSpec.upto cmsOrderSpec)

/-- 'lintellaw14.CmsAttributes', WHERE WHAT IT READS IS OF BULK AT MOST 1048576: true; the input reads as it did. -/
def cmsAttributesUptoRow : OpenClaim := { program := "ytmpkpphfoidbeaagreatdoor", sum := "76ae717b109c97f2a7f7455c788b4640901c8103ad19b05ea4b63cdd357812df", func := "lintel/lintellaw14.CmsAttributes", spec := "cmsAttributes", inPlace := ["internal/bytealg.Compare"], unfollowed := true, recurses := true, named := ["lintel/cms.wrapped", "lintel/cms.hashes", "lintel/cms.kinds", "lintel/cms.digests", "lintel/cms.ciphers", "lintel/cms.peImages"], apart := false, laid := [("lintel/cms.hashes", laid_lintel_cms_hashes), ("lintel/cms.ciphers", laid_lintel_cms_ciphers), ("lintel/cms.wrapped", laid_lintel_cms_wrapped), ("lintel/cms.kinds", laid_lintel_cms_kinds), ("lintel/cms.digests", laid_lintel_cms_digests), ("lintel/cms.peImages", laid_lintel_cms_peImages)], narrowed := true }
def CmsAttributesUptoSaid : Prop := cmsAttributesUptoRow.holds Tryz.pinned (OpenSpec.upto cmsAttributesSpec)

/-- 'lintellaw14.CmsMethods', WHERE WHAT IT READS IS OF BULK AT MOST 1048576: true; the input reads as it did. -/
def cmsMethodsUptoRow : OpenClaim := { program := "ytmpkpphfoidbeaagreatdoor", sum := "76ae717b109c97f2a7f7455c788b4640901c8103ad19b05ea4b63cdd357812df", func := "lintel/lintellaw14.CmsMethods", spec := "cmsMethods", inPlace := ["internal/bytealg.Compare"], unfollowed := true, recurses := true, named := ["lintel/cms.wrapped", "lintel/cms.hashes", "lintel/cms.kinds", "lintel/cms.digests", "lintel/cms.ciphers", "lintel/cms.peImages"], apart := false, laid := [("lintel/cms.hashes", laid_lintel_cms_hashes), ("lintel/cms.ciphers", laid_lintel_cms_ciphers), ("lintel/cms.wrapped", laid_lintel_cms_wrapped), ("lintel/cms.kinds", laid_lintel_cms_kinds), ("lintel/cms.digests", laid_lintel_cms_digests), ("lintel/cms.peImages", laid_lintel_cms_peImages)], narrowed := true }
def CmsMethodsUptoSaid : Prop := cmsMethodsUptoRow.holds Tryz.pinned (OpenSpec.upto cmsMethodsSpec)

/-- 'lintellaw14.CmsVersions', WHERE WHAT IT READS IS OF BULK AT MOST 1048576: true; the input reads as it did. -/
def cmsVersionsUptoRow : OpenClaim := { program := "ytmpkpphfoidbeaagreatdoor", sum := "76ae717b109c97f2a7f7455c788b4640901c8103ad19b05ea4b63cdd357812df", func := "lintel/lintellaw14.CmsVersions", spec := "cmsVersions", inPlace := ["internal/bytealg.Compare"], unfollowed := true, recurses := true, named := ["lintel/cms.wrapped", "lintel/cms.hashes", "lintel/cms.kinds", "lintel/cms.digests", "lintel/cms.ciphers", "lintel/cms.peImages"], apart := false, laid := [("lintel/cms.hashes", laid_lintel_cms_hashes), ("lintel/cms.ciphers", laid_lintel_cms_ciphers), ("lintel/cms.wrapped", laid_lintel_cms_wrapped), ("lintel/cms.kinds", laid_lintel_cms_kinds), ("lintel/cms.digests", laid_lintel_cms_digests), ("lintel/cms.peImages", laid_lintel_cms_peImages)], narrowed := true }
def CmsVersionsUptoSaid : Prop := cmsVersionsUptoRow.holds Tryz.pinned (OpenSpec.upto cmsVersionsSpec)

/-- 'lintellaw14.CmsContents', WHERE WHAT IT READS IS OF BULK AT MOST 1048576: true; the input reads as it did. -/
def cmsContentsUptoRow : OpenClaim := { program := "ytmpkpphfoidbeaagreatdoor", sum := "76ae717b109c97f2a7f7455c788b4640901c8103ad19b05ea4b63cdd357812df", func := "lintel/lintellaw14.CmsContents", spec := "cmsContents", inPlace := ["internal/bytealg.Compare"], unfollowed := true, recurses := true, named := ["lintel/cms.wrapped", "lintel/cms.hashes", "lintel/cms.kinds", "lintel/cms.digests", "lintel/cms.ciphers", "lintel/cms.peImages"], apart := false, laid := [("lintel/cms.hashes", laid_lintel_cms_hashes), ("lintel/cms.ciphers", laid_lintel_cms_ciphers), ("lintel/cms.wrapped", laid_lintel_cms_wrapped), ("lintel/cms.kinds", laid_lintel_cms_kinds), ("lintel/cms.digests", laid_lintel_cms_digests), ("lintel/cms.peImages", laid_lintel_cms_peImages)], narrowed := true }
def CmsContentsUptoSaid : Prop := cmsContentsUptoRow.holds Tryz.pinned (OpenSpec.upto cmsContentsSpec)

end Rows
end Go.Proofs.YtmpkpphfoidbeaaGreatDoor
