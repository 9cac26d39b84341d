/-
  NARROWER THAN 'FOR EVERY INPUT', by the rows' own cells (each row's printed sentence says how): MeasureBlind: laid · MeasureSections: laid · MeasureAlike: laid · MeasureRefuses: laid.
  DERIVED. THE GIVEN ROWS OF THIS SEAT. 4 by the template 'for every input the law returns true; each argument reads behind the call as it read before'; 0 by the template 'total and deterministic' (their statements: YtedlpcioegbmfaaDoorTotals.lean).
  GIVEN WITH THE SEED: the statements are not yours to turn. If you find one false, say at which input.
  Laid BY PROGRAM, IN A SANDBOX (cutbox-rows.mjs): the forced cells as the released guide's own fill.sh prints them over the translation 6892b1aba379b086… (all of the seat's roots in one cut). By AI agents, Wed Nov 11 2026. No macro, syntax, notation, axiom, sorry.
-/
import Derived.Test.YtedlpcioegbmfaaDoorChecked
import GoSem.PinnedTables
import GoSem.Claim
import GoSem.ClaimJoined
import GoSem.ClaimMapViews
import Derived.JoinedTies
import Derived.KernelRfl
namespace Go.Proofs.YtedlpcioegbmfaaDoor
/- THE CELL 'sum', in the pinned program and in every row, IS THE sha256 OF THE DUMP (.gsa) THAT YtedlpcioegbmfaaDoorProg.lean LOADS. Nothing in Lean hashes anything: it is a label: what it is worth is what the hold of that sum in a sandbox is worth. -/
noncomputable def Tryd.pinned : Pinned := { name := "ytedlpcioegbmfaadoor", sum := "6892b1aba379b08638e0dd12ec2424c167c994f22fb4c09025d9d031ee6998d9", checked := Tryd.checked }
namespace Rows
def none {H : Type} : Left H := { results := [], args := [] }

/- WHAT THE LISTED PACKAGE-LEVEL VARIABLES READ AS WHEN THE CALL BEGINS. Each datum BY PROGRAM (the guide's laid-datum.mjs) off the statement by which the dump's own 'gosem.cut.vars' lays the variable. In a bare row this is a premise. The card (YtedlpcioegbmfaaDoorCards.lean) ties it to the program's text. -/
def laid_unicode_utf8_acceptRanges {H : Type} : DataW H := .agg [.agg [.lit (.int .u8 128), .lit (.int .u8 191)], .agg [.lit (.int .u8 160), .lit (.int .u8 191)], .agg [.lit (.int .u8 128), .lit (.int .u8 159)], .agg [.lit (.int .u8 144), .lit (.int .u8 191)], .agg [.lit (.int .u8 128), .lit (.int .u8 143)], .agg [.lit (.int .u8 0), .lit (.int .u8 0)], .agg [.lit (.int .u8 0), .lit (.int .u8 0)], .agg [.lit (.int .u8 0), .lit (.int .u8 0)], .agg [.lit (.int .u8 0), .lit (.int .u8 0)], .agg [.lit (.int .u8 0), .lit (.int .u8 0)], .agg [.lit (.int .u8 0), .lit (.int .u8 0)], .agg [.lit (.int .u8 0), .lit (.int .u8 0)], .agg [.lit (.int .u8 0), .lit (.int .u8 0)], .agg [.lit (.int .u8 0), .lit (.int .u8 0)], .agg [.lit (.int .u8 0), .lit (.int .u8 0)], .agg [.lit (.int .u8 0), .lit (.int .u8 0)]]
/-- One of Go's own tables, pinned by name: the form's constant. -/
def laid_unicode_utf8_first : DataW Unit := Go.Pinned.utf8First

/-- 'lintellaw17.MeasureBlind': WHATEVER THE INPUT: true; the input reads as it did. -/
def measureBlindSpec : ChangeSpec := { name := "measureBlind", fn := fun _ => fun
  | [d1, d2, d3] => { results := [.lit (.bool true)], args := [d1, d2, d3] }
  | _ => none }
def measureBlindRow : OpenClaim := { program := "ytedlpcioegbmfaadoor", sum := "6892b1aba379b08638e0dd12ec2424c167c994f22fb4c09025d9d031ee6998d9", func := "lintel/lintellaw17.MeasureBlind", spec := "measureBlind", unfollowed := true, recurses := true, named := ["unicode/utf8.first", "unicode/utf8.acceptRanges"], apart := false, laid := [("unicode/utf8.acceptRanges", laid_unicode_utf8_acceptRanges), ("unicode/utf8.first", laid_unicode_utf8_first)] }
def MeasureBlindSaid : Prop := measureBlindRow.holds Tryd.pinned (OpenSpec.ofChange measureBlindSpec)

/-- ITS FALSE NEIGHBOUR: 'it returns false'. Refute it at one input. -/
def measureBlindWrong : ChangeSpec := { name := "measureBlind", fn := fun _ => fun
  | [d1, d2, d3] => { results := [.lit (.bool false)], args := [d1, d2, d3] }
  | _ => none }
def MeasureBlindWrongFalsely : Prop := measureBlindRow.holds Tryd.pinned (OpenSpec.ofChange measureBlindWrong)

/-- 'lintellaw17.MeasureSections': WHATEVER THE INPUT: true; the input reads as it did. -/
def measureSectionsSpec : ChangeSpec := { name := "measureSections", fn := fun _ => fun
  | [d] => { results := [.lit (.bool true)], args := [d] }
  | _ => none }
def measureSectionsRow : OpenClaim := { program := "ytedlpcioegbmfaadoor", sum := "6892b1aba379b08638e0dd12ec2424c167c994f22fb4c09025d9d031ee6998d9", func := "lintel/lintellaw17.MeasureSections", spec := "measureSections", unfollowed := true, recurses := true, named := ["unicode/utf8.first", "unicode/utf8.acceptRanges"], apart := false, laid := [("unicode/utf8.acceptRanges", laid_unicode_utf8_acceptRanges), ("unicode/utf8.first", laid_unicode_utf8_first)] }
def MeasureSectionsSaid : Prop := measureSectionsRow.holds Tryd.pinned (OpenSpec.ofChange measureSectionsSpec)

/-- ITS FALSE NEIGHBOUR: 'it returns false'. Refute it at one input. -/
def measureSectionsWrong : ChangeSpec := { name := "measureSections", fn := fun _ => fun
  | [d] => { results := [.lit (.bool false)], args := [d] }
  | _ => none }
def MeasureSectionsWrongFalsely : Prop := measureSectionsRow.holds Tryd.pinned (OpenSpec.ofChange measureSectionsWrong)

/-- 'lintellaw17.MeasureAlike': WHATEVER THE INPUT: true; the input reads as it did. -/
def measureAlikeSpec : ChangeSpec := { name := "measureAlike", fn := fun _ => fun
  | [d1, d2] => { results := [.lit (.bool true)], args := [d1, d2] }
  | _ => none }
def measureAlikeRow : OpenClaim := { program := "ytedlpcioegbmfaadoor", sum := "6892b1aba379b08638e0dd12ec2424c167c994f22fb4c09025d9d031ee6998d9", func := "lintel/lintellaw17.MeasureAlike", spec := "measureAlike", unfollowed := true, recurses := true, named := ["unicode/utf8.first", "unicode/utf8.acceptRanges"], apart := false, laid := [("unicode/utf8.acceptRanges", laid_unicode_utf8_acceptRanges), ("unicode/utf8.first", laid_unicode_utf8_first)] }
def MeasureAlikeSaid : Prop := measureAlikeRow.holds Tryd.pinned (OpenSpec.ofChange measureAlikeSpec)

/-- ITS FALSE NEIGHBOUR: 'it returns false'. Refute it at one input. -/
def measureAlikeWrong : ChangeSpec := { name := "measureAlike", fn := fun _ => fun
  | [d1, d2] => { results := [.lit (.bool false)], args := [d1, d2] }
  | _ => none }
def MeasureAlikeWrongFalsely : Prop := measureAlikeRow.holds Tryd.pinned (OpenSpec.ofChange measureAlikeWrong)

/-- 'lintellaw17.MeasureRefuses': WHATEVER THE INPUT: true; the input reads as it did. -/
def measureRefusesSpec : ChangeSpec := { name := "measureRefuses", fn := fun _ => fun
  | [d1, d2, d3] => { results := [.lit (.bool true)], args := [d1, d2, d3] }
  | _ => none }
def measureRefusesRow : OpenClaim := { program := "ytedlpcioegbmfaadoor", sum := "6892b1aba379b08638e0dd12ec2424c167c994f22fb4c09025d9d031ee6998d9", func := "lintel/lintellaw17.MeasureRefuses", spec := "measureRefuses", unfollowed := true, recurses := true, named := ["unicode/utf8.first", "unicode/utf8.acceptRanges"], apart := false, laid := [("unicode/utf8.acceptRanges", laid_unicode_utf8_acceptRanges), ("unicode/utf8.first", laid_unicode_utf8_first)] }
def MeasureRefusesSaid : Prop := measureRefusesRow.holds Tryd.pinned (OpenSpec.ofChange measureRefusesSpec)

/-- ITS FALSE NEIGHBOUR: 'it returns false'. Refute it at one input. -/
def measureRefusesWrong : ChangeSpec := { name := "measureRefuses", fn := fun _ => fun
  | [d1, d2, d3] => { results := [.lit (.bool false)], args := [d1, d2, d3] }
  | _ => none }
def MeasureRefusesWrongFalsely : Prop := measureRefusesRow.holds Tryd.pinned (OpenSpec.ofChange measureRefusesWrong)

/- THE SECOND FORM. 'bulk': how many values and letters a reading holds, each counted each time it is reached (what is shared counts as often as it is met; a slice's spare places count too). A statement '..UptoSaid' is the law's where the arguments, and the package variables that the reading takes, are together of bulk at most 1048576: NARROWER than '..Said'. Prove '..Said' where nothing that the law and all that it calls make is longer than what came in: it says more and counts as full. Else prove '..UptoSaid'. A law counts once. -/
mutual
def uptoBulk {H : Type} : DataW H → Nat
  | .lit (.string bytes) => bytes.length + 1
  | .lit _ => 1
  | .nil => 1
  | .ptr d => uptoBulk d + 1
  | .slice elems spare => uptoBulkAll elems + uptoBulkAll spare + 1
  | .agg parts => uptoBulkAll parts + 1
  | .iface _ d => uptoBulk d + 1
  | .map entries => uptoBulkEntries entries + 1
  | .held _ => 1
def uptoBulkAll {H : Type} : List (DataW H) → Nat
  | [] => 0
  | d :: r => uptoBulk d + uptoBulkAll r
def uptoBulkEntries {H : Type} : List (Lit × DataW H) → Nat
  | [] => 0
  | x :: r => uptoBulkEntry x + uptoBulkEntries r
def uptoBulkEntry {H : Type} : Lit × DataW H → Nat
  | (.string bytes, d) => bytes.length + uptoBulk d + 1
  | (_, d) => uptoBulk d + 1
 end
def uptoSmall : (H : Type) → List (DataW H) → Bool := fun _ ds => decide (uptoBulkAll ds ≤ 1048576)
def OpenSpec.upto (s : _root_.Go.ChangeSpec) : _root_.Go.OpenSpec := { _root_.Go.OpenSpec.ofChange s with cond := some uptoSmall }

/-- 'lintellaw17.MeasureBlind', WHERE WHAT IT READS IS OF BULK AT MOST 1048576: true; the input reads as it did. -/
def measureBlindUptoRow : OpenClaim := { program := "ytedlpcioegbmfaadoor", sum := "6892b1aba379b08638e0dd12ec2424c167c994f22fb4c09025d9d031ee6998d9", func := "lintel/lintellaw17.MeasureBlind", spec := "measureBlind", unfollowed := true, recurses := true, named := ["unicode/utf8.first", "unicode/utf8.acceptRanges"], apart := false, laid := [("unicode/utf8.acceptRanges", laid_unicode_utf8_acceptRanges), ("unicode/utf8.first", laid_unicode_utf8_first)], narrowed := true }
def MeasureBlindUptoSaid : Prop := measureBlindUptoRow.holds Tryd.pinned (OpenSpec.upto measureBlindSpec)

/-- 'lintellaw17.MeasureSections', WHERE WHAT IT READS IS OF BULK AT MOST 1048576: true; the input reads as it did. -/
def measureSectionsUptoRow : OpenClaim := { program := "ytedlpcioegbmfaadoor", sum := "6892b1aba379b08638e0dd12ec2424c167c994f22fb4c09025d9d031ee6998d9", func := "lintel/lintellaw17.MeasureSections", spec := "measureSections", unfollowed := true, recurses := true, named := ["unicode/utf8.first", "unicode/utf8.acceptRanges"], apart := false, laid := [("unicode/utf8.acceptRanges", laid_unicode_utf8_acceptRanges), ("unicode/utf8.first", laid_unicode_utf8_first)], narrowed := true }
def MeasureSectionsUptoSaid : Prop := measureSectionsUptoRow.holds Tryd.pinned (OpenSpec.upto measureSectionsSpec)

/-- 'lintellaw17.MeasureAlike', WHERE WHAT IT READS IS OF BULK AT MOST 1048576: true; the input reads as it did. -/
def measureAlikeUptoRow : OpenClaim := { program := "ytedlpcioegbmfaadoor", sum := "6892b1aba379b08638e0dd12ec2424c167c994f22fb4c09025d9d031ee6998d9", func := "lintel/lintellaw17.MeasureAlike", spec := "measureAlike", unfollowed := true, recurses := true, named := ["unicode/utf8.first", "unicode/utf8.acceptRanges"], apart := false, laid := [("unicode/utf8.acceptRanges", laid_unicode_utf8_acceptRanges), ("unicode/utf8.first", laid_unicode_utf8_first)], narrowed := true }
def MeasureAlikeUptoSaid : Prop := measureAlikeUptoRow.holds Tryd.pinned (OpenSpec.upto measureAlikeSpec)

/-- 'lintellaw17.MeasureRefuses', WHERE WHAT IT READS IS OF BULK AT MOST 1048576: true; the input reads as it did. -/
def measureRefusesUptoRow : OpenClaim := { program := "ytedlpcioegbmfaadoor", sum := "6892b1aba379b08638e0dd12ec2424c167c994f22fb4c09025d9d031ee6998d9", func := "lintel/lintellaw17.MeasureRefuses", spec := "measureRefuses", unfollowed := true, recurses := true, named := ["unicode/utf8.first", "unicode/utf8.acceptRanges"], apart := false, laid := [("unicode/utf8.acceptRanges", laid_unicode_utf8_acceptRanges), ("unicode/utf8.first", laid_unicode_utf8_first)], narrowed := true }
def MeasureRefusesUptoSaid : Prop := measureRefusesUptoRow.holds Tryd.pinned (OpenSpec.upto measureRefusesSpec)

end Rows
end Go.Proofs.YtedlpcioegbmfaaDoor
