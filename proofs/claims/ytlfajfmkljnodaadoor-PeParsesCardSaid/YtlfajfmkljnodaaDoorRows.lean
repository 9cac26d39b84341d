/-
  NARROWER THAN 'FOR EVERY INPUT', by the rows' own cells (each row's printed sentence says how): PeParses: laid · PeBack: laid · PeParts: laid · PeSigs: laid · PeGaps: laid · PeChecks: laid · PeTables: laid · PeFills: laid · PeCounts: laid.
  DERIVED. THE GIVEN ROWS OF THIS SEAT. 9 by the template 'for every input the law returns true; each argument reads behind the call as it read before'; 0 by the template 'total and deterministic' (their statements: YtlfajfmkljnodaaDoorTotals.lean).
  GIVEN WITH THE SEED: the statements are not yours to turn. If you find one false, say at which input.
  Laid BY PROGRAM, IN A SANDBOX (cutbox-rows.mjs): the forced cells as the released guide's own fill.sh prints them over the translation 2ea071c3965400c0… (all of the seat's roots in one cut). By AI agents, Wed Nov 11 2026. No macro, syntax, notation, axiom, sorry.
-/
import Derived.Test.YtlfajfmkljnodaaDoorChecked
import GoSem.PinnedTables
import GoSem.Claim
import GoSem.ClaimJoined
import GoSem.ClaimMapViews
import Derived.JoinedTies
import Derived.KernelRfl
namespace Go.Proofs.YtlfajfmkljnodaaDoor
/- THE CELL 'sum', in the pinned program and in every row, IS THE sha256 OF THE DUMP (.gsa) THAT YtlfajfmkljnodaaDoorProg.lean LOADS. Nothing in Lean hashes anything: it is a label: what it is worth is what the hold of that sum in a sandbox is worth. -/
noncomputable def Tryd.pinned : Pinned := { name := "ytlfajfmkljnodaadoor", sum := "2ea071c3965400c030e767370a8fb9253d74d8d6faa50712e4c2d18c62aa4ae9", checked := Tryd.checked }
namespace Rows
def none {H : Type} : Left H := { results := [], args := [] }

/- WHAT THE LISTED PACKAGE-LEVEL VARIABLES READ AS WHEN THE CALL BEGINS. Each datum BY PROGRAM (the guide's laid-datum.mjs) off the statement by which the dump's own 'gosem.cut.vars' lays the variable. In a bare row this is a premise. The card (YtlfajfmkljnodaaDoorCards.lean) ties it to the program's text. -/
def laid_unicode_utf8_acceptRanges {H : Type} : DataW H := .agg [.agg [.lit (.int .u8 128), .lit (.int .u8 191)], .agg [.lit (.int .u8 160), .lit (.int .u8 191)], .agg [.lit (.int .u8 128), .lit (.int .u8 159)], .agg [.lit (.int .u8 144), .lit (.int .u8 191)], .agg [.lit (.int .u8 128), .lit (.int .u8 143)], .agg [.lit (.int .u8 0), .lit (.int .u8 0)], .agg [.lit (.int .u8 0), .lit (.int .u8 0)], .agg [.lit (.int .u8 0), .lit (.int .u8 0)], .agg [.lit (.int .u8 0), .lit (.int .u8 0)], .agg [.lit (.int .u8 0), .lit (.int .u8 0)], .agg [.lit (.int .u8 0), .lit (.int .u8 0)], .agg [.lit (.int .u8 0), .lit (.int .u8 0)], .agg [.lit (.int .u8 0), .lit (.int .u8 0)], .agg [.lit (.int .u8 0), .lit (.int .u8 0)], .agg [.lit (.int .u8 0), .lit (.int .u8 0)], .agg [.lit (.int .u8 0), .lit (.int .u8 0)]]
/-- One of Go's own tables, pinned by name: the form's constant. -/
def laid_unicode_utf8_first : DataW Unit := Go.Pinned.utf8First

/-- 'lintellaw16.PeParses': WHATEVER THE INPUT: true; the input reads as it did. -/
def peParsesSpec : ChangeSpec := { name := "peParses", fn := fun _ => fun
  | [d] => { results := [.lit (.bool true)], args := [d] }
  | _ => none }
def peParsesRow : OpenClaim := { program := "ytlfajfmkljnodaadoor", sum := "2ea071c3965400c030e767370a8fb9253d74d8d6faa50712e4c2d18c62aa4ae9", func := "lintel/lintellaw16.PeParses", spec := "peParses", unfollowed := true, recurses := true, named := ["unicode/utf8.first", "unicode/utf8.acceptRanges"], apart := false, laid := [("unicode/utf8.acceptRanges", laid_unicode_utf8_acceptRanges), ("unicode/utf8.first", laid_unicode_utf8_first)] }
def PeParsesSaid : Prop := peParsesRow.holds Tryd.pinned (OpenSpec.ofChange peParsesSpec)

/-- ITS FALSE NEIGHBOUR: 'it returns false'. Refute it at one input. -/
def peParsesWrong : ChangeSpec := { name := "peParses", fn := fun _ => fun
  | [d] => { results := [.lit (.bool false)], args := [d] }
  | _ => none }
def PeParsesWrongFalsely : Prop := peParsesRow.holds Tryd.pinned (OpenSpec.ofChange peParsesWrong)

/-- 'lintellaw16.PeBack': WHATEVER THE INPUT: true; the input reads as it did. -/
def peBackSpec : ChangeSpec := { name := "peBack", fn := fun _ => fun
  | [d1, d2, d3] => { results := [.lit (.bool true)], args := [d1, d2, d3] }
  | _ => none }
def peBackRow : OpenClaim := { program := "ytlfajfmkljnodaadoor", sum := "2ea071c3965400c030e767370a8fb9253d74d8d6faa50712e4c2d18c62aa4ae9", func := "lintel/lintellaw16.PeBack", spec := "peBack", unfollowed := true, recurses := true, named := ["unicode/utf8.first", "unicode/utf8.acceptRanges"], apart := false, laid := [("unicode/utf8.acceptRanges", laid_unicode_utf8_acceptRanges), ("unicode/utf8.first", laid_unicode_utf8_first)] }
def PeBackSaid : Prop := peBackRow.holds Tryd.pinned (OpenSpec.ofChange peBackSpec)

/-- ITS FALSE NEIGHBOUR: 'it returns false'. Refute it at one input. -/
def peBackWrong : ChangeSpec := { name := "peBack", fn := fun _ => fun
  | [d1, d2, d3] => { results := [.lit (.bool false)], args := [d1, d2, d3] }
  | _ => none }
def PeBackWrongFalsely : Prop := peBackRow.holds Tryd.pinned (OpenSpec.ofChange peBackWrong)

/-- 'lintellaw16.PeParts': WHATEVER THE INPUT: true; the input reads as it did. -/
def pePartsSpec : ChangeSpec := { name := "peParts", fn := fun _ => fun
  | [d] => { results := [.lit (.bool true)], args := [d] }
  | _ => none }
def pePartsRow : OpenClaim := { program := "ytlfajfmkljnodaadoor", sum := "2ea071c3965400c030e767370a8fb9253d74d8d6faa50712e4c2d18c62aa4ae9", func := "lintel/lintellaw16.PeParts", spec := "peParts", unfollowed := true, recurses := true, named := ["unicode/utf8.first", "unicode/utf8.acceptRanges"], apart := false, laid := [("unicode/utf8.acceptRanges", laid_unicode_utf8_acceptRanges), ("unicode/utf8.first", laid_unicode_utf8_first)] }
def PePartsSaid : Prop := pePartsRow.holds Tryd.pinned (OpenSpec.ofChange pePartsSpec)

/-- ITS FALSE NEIGHBOUR: 'it returns false'. Refute it at one input. -/
def pePartsWrong : ChangeSpec := { name := "peParts", fn := fun _ => fun
  | [d] => { results := [.lit (.bool false)], args := [d] }
  | _ => none }
def PePartsWrongFalsely : Prop := pePartsRow.holds Tryd.pinned (OpenSpec.ofChange pePartsWrong)

/-- 'lintellaw16.PeSigs': WHATEVER THE INPUT: true; the input reads as it did. -/
def peSigsSpec : ChangeSpec := { name := "peSigs", fn := fun _ => fun
  | [d1, d2, d3] => { results := [.lit (.bool true)], args := [d1, d2, d3] }
  | _ => none }
def peSigsRow : OpenClaim := { program := "ytlfajfmkljnodaadoor", sum := "2ea071c3965400c030e767370a8fb9253d74d8d6faa50712e4c2d18c62aa4ae9", func := "lintel/lintellaw16.PeSigs", spec := "peSigs", unfollowed := true, recurses := true, named := ["unicode/utf8.first", "unicode/utf8.acceptRanges"], apart := false, laid := [("unicode/utf8.acceptRanges", laid_unicode_utf8_acceptRanges), ("unicode/utf8.first", laid_unicode_utf8_first)] }
def PeSigsSaid : Prop := peSigsRow.holds Tryd.pinned (OpenSpec.ofChange peSigsSpec)

/-- ITS FALSE NEIGHBOUR: 'it returns false'. Refute it at one input. -/
def peSigsWrong : ChangeSpec := { name := "peSigs", fn := fun _ => fun
  | [d1, d2, d3] => { results := [.lit (.bool false)], args := [d1, d2, d3] }
  | _ => none }
def PeSigsWrongFalsely : Prop := peSigsRow.holds Tryd.pinned (OpenSpec.ofChange peSigsWrong)

/-- 'lintellaw16.PeGaps': WHATEVER THE INPUT: true; the input reads as it did. -/
def peGapsSpec : ChangeSpec := { name := "peGaps", fn := fun _ => fun
  | [d1, d2, d3] => { results := [.lit (.bool true)], args := [d1, d2, d3] }
  | _ => none }
def peGapsRow : OpenClaim := { program := "ytlfajfmkljnodaadoor", sum := "2ea071c3965400c030e767370a8fb9253d74d8d6faa50712e4c2d18c62aa4ae9", func := "lintel/lintellaw16.PeGaps", spec := "peGaps", unfollowed := true, recurses := true, named := ["unicode/utf8.first", "unicode/utf8.acceptRanges"], apart := false, laid := [("unicode/utf8.acceptRanges", laid_unicode_utf8_acceptRanges), ("unicode/utf8.first", laid_unicode_utf8_first)] }
def PeGapsSaid : Prop := peGapsRow.holds Tryd.pinned (OpenSpec.ofChange peGapsSpec)

/-- ITS FALSE NEIGHBOUR: 'it returns false'. Refute it at one input. -/
def peGapsWrong : ChangeSpec := { name := "peGaps", fn := fun _ => fun
  | [d1, d2, d3] => { results := [.lit (.bool false)], args := [d1, d2, d3] }
  | _ => none }
def PeGapsWrongFalsely : Prop := peGapsRow.holds Tryd.pinned (OpenSpec.ofChange peGapsWrong)

/-- 'lintellaw16.PeChecks': WHATEVER THE INPUT: true; the input reads as it did. -/
def peChecksSpec : ChangeSpec := { name := "peChecks", fn := fun _ => fun
  | [d] => { results := [.lit (.bool true)], args := [d] }
  | _ => none }
def peChecksRow : OpenClaim := { program := "ytlfajfmkljnodaadoor", sum := "2ea071c3965400c030e767370a8fb9253d74d8d6faa50712e4c2d18c62aa4ae9", func := "lintel/lintellaw16.PeChecks", spec := "peChecks", unfollowed := true, recurses := true, named := ["unicode/utf8.first", "unicode/utf8.acceptRanges"], apart := false, laid := [("unicode/utf8.acceptRanges", laid_unicode_utf8_acceptRanges), ("unicode/utf8.first", laid_unicode_utf8_first)] }
def PeChecksSaid : Prop := peChecksRow.holds Tryd.pinned (OpenSpec.ofChange peChecksSpec)

/-- ITS FALSE NEIGHBOUR: 'it returns false'. Refute it at one input. -/
def peChecksWrong : ChangeSpec := { name := "peChecks", fn := fun _ => fun
  | [d] => { results := [.lit (.bool false)], args := [d] }
  | _ => none }
def PeChecksWrongFalsely : Prop := peChecksRow.holds Tryd.pinned (OpenSpec.ofChange peChecksWrong)

/-- 'lintellaw16.PeTables': WHATEVER THE INPUT: true; the input reads as it did. -/
def peTablesSpec : ChangeSpec := { name := "peTables", fn := fun _ => fun
  | [d1, d2, d3] => { results := [.lit (.bool true)], args := [d1, d2, d3] }
  | _ => none }
def peTablesRow : OpenClaim := { program := "ytlfajfmkljnodaadoor", sum := "2ea071c3965400c030e767370a8fb9253d74d8d6faa50712e4c2d18c62aa4ae9", func := "lintel/lintellaw16.PeTables", spec := "peTables", unfollowed := true, recurses := true, named := ["unicode/utf8.first", "unicode/utf8.acceptRanges"], apart := false, laid := [("unicode/utf8.acceptRanges", laid_unicode_utf8_acceptRanges), ("unicode/utf8.first", laid_unicode_utf8_first)] }
def PeTablesSaid : Prop := peTablesRow.holds Tryd.pinned (OpenSpec.ofChange peTablesSpec)

/-- ITS FALSE NEIGHBOUR: 'it returns false'. Refute it at one input. -/
def peTablesWrong : ChangeSpec := { name := "peTables", fn := fun _ => fun
  | [d1, d2, d3] => { results := [.lit (.bool false)], args := [d1, d2, d3] }
  | _ => none }
def PeTablesWrongFalsely : Prop := peTablesRow.holds Tryd.pinned (OpenSpec.ofChange peTablesWrong)

/-- 'lintellaw16.PeFills': WHATEVER THE INPUT: true; the input reads as it did. -/
def peFillsSpec : ChangeSpec := { name := "peFills", fn := fun _ => fun
  | [d1, d2, d3] => { results := [.lit (.bool true)], args := [d1, d2, d3] }
  | _ => none }
def peFillsRow : OpenClaim := { program := "ytlfajfmkljnodaadoor", sum := "2ea071c3965400c030e767370a8fb9253d74d8d6faa50712e4c2d18c62aa4ae9", func := "lintel/lintellaw16.PeFills", spec := "peFills", unfollowed := true, recurses := true, named := ["unicode/utf8.first", "unicode/utf8.acceptRanges"], apart := false, laid := [("unicode/utf8.acceptRanges", laid_unicode_utf8_acceptRanges), ("unicode/utf8.first", laid_unicode_utf8_first)] }
def PeFillsSaid : Prop := peFillsRow.holds Tryd.pinned (OpenSpec.ofChange peFillsSpec)

/-- ITS FALSE NEIGHBOUR: 'it returns false'. Refute it at one input. -/
def peFillsWrong : ChangeSpec := { name := "peFills", fn := fun _ => fun
  | [d1, d2, d3] => { results := [.lit (.bool false)], args := [d1, d2, d3] }
  | _ => none }
def PeFillsWrongFalsely : Prop := peFillsRow.holds Tryd.pinned (OpenSpec.ofChange peFillsWrong)

/-- 'lintellaw16.PeCounts': WHATEVER THE INPUT: true; the input reads as it did. -/
def peCountsSpec : ChangeSpec := { name := "peCounts", fn := fun _ => fun
  | [d1, d2, d3] => { results := [.lit (.bool true)], args := [d1, d2, d3] }
  | _ => none }
def peCountsRow : OpenClaim := { program := "ytlfajfmkljnodaadoor", sum := "2ea071c3965400c030e767370a8fb9253d74d8d6faa50712e4c2d18c62aa4ae9", func := "lintel/lintellaw16.PeCounts", spec := "peCounts", unfollowed := true, recurses := true, named := ["unicode/utf8.first", "unicode/utf8.acceptRanges"], apart := false, laid := [("unicode/utf8.acceptRanges", laid_unicode_utf8_acceptRanges), ("unicode/utf8.first", laid_unicode_utf8_first)] }
def PeCountsSaid : Prop := peCountsRow.holds Tryd.pinned (OpenSpec.ofChange peCountsSpec)

/-- ITS FALSE NEIGHBOUR: 'it returns false'. Refute it at one input. -/
def peCountsWrong : ChangeSpec := { name := "peCounts", fn := fun _ => fun
  | [d1, d2, d3] => { results := [.lit (.bool false)], args := [d1, d2, d3] }
  | _ => none }
def PeCountsWrongFalsely : Prop := peCountsRow.holds Tryd.pinned (OpenSpec.ofChange peCountsWrong)

/- THE SECOND FORM. 'bulk': how many values and letters a reading holds, each counted each time it is reached (what is shared counts as often as it is met; a slice's spare places count too). A statement '..UptoSaid' is the law's where the arguments, and the package variables that the reading takes, are together of bulk at most 1048576: NARROWER than '..Said'. Prove '..Said' where nothing that the law and all that it calls make is longer than what came in: it says more and counts as full. Else prove '..UptoSaid'. A law counts once. -/
mutual
def uptoBulk {H : Type} : DataW H → Nat
  | .lit (.string bytes) => bytes.length + 1
  | .lit _ => 1
  | .nil => 1
  | .ptr d => uptoBulk d + 1
  | .slice elems spare => uptoBulkAll elems + uptoBulkAll spare + 1
  | .agg parts => uptoBulkAll parts + 1
  | .iface _ d => uptoBulk d + 1
  | .map entries => uptoBulkEntries entries + 1
  | .held _ => 1
def uptoBulkAll {H : Type} : List (DataW H) → Nat
  | [] => 0
  | d :: r => uptoBulk d + uptoBulkAll r
def uptoBulkEntries {H : Type} : List (Lit × DataW H) → Nat
  | [] => 0
  | x :: r => uptoBulkEntry x + uptoBulkEntries r
def uptoBulkEntry {H : Type} : Lit × DataW H → Nat
  | (.string bytes, d) => bytes.length + uptoBulk d + 1
  | (_, d) => uptoBulk d + 1
 end
def uptoSmall : (H : Type) → List (DataW H) → Bool := fun _ ds => decide (uptoBulkAll ds ≤ 1048576)
def OpenSpec.upto (s : _root_.Go.ChangeSpec) : _root_.Go.OpenSpec := { _root_.Go.OpenSpec.ofChange s with cond := some uptoSmall }

/-- 'lintellaw16.PeParses', WHERE WHAT IT READS IS OF BULK AT MOST 1048576: true; the input reads as it did. -/
def peParsesUptoRow : OpenClaim := { program := "ytlfajfmkljnodaadoor", sum := "2ea071c3965400c030e767370a8fb9253d74d8d6faa50712e4c2d18c62aa4ae9", func := "lintel/lintellaw16.PeParses", spec := "peParses", unfollowed := true, recurses := true, named := ["unicode/utf8.first", "unicode/utf8.acceptRanges"], apart := false, laid := [("unicode/utf8.acceptRanges", laid_unicode_utf8_acceptRanges), ("unicode/utf8.first", laid_unicode_utf8_first)], narrowed := true }
def PeParsesUptoSaid : Prop := peParsesUptoRow.holds Tryd.pinned (OpenSpec.upto peParsesSpec)

/-- 'lintellaw16.PeBack', WHERE WHAT IT READS IS OF BULK AT MOST 1048576: true; the input reads as it did. -/
def peBackUptoRow : OpenClaim := { program := "ytlfajfmkljnodaadoor", sum := "2ea071c3965400c030e767370a8fb9253d74d8d6faa50712e4c2d18c62aa4ae9", func := "lintel/lintellaw16.PeBack", spec := "peBack", unfollowed := true, recurses := true, named := ["unicode/utf8.first", "unicode/utf8.acceptRanges"], apart := false, laid := [("unicode/utf8.acceptRanges", laid_unicode_utf8_acceptRanges), ("unicode/utf8.first", laid_unicode_utf8_first)], narrowed := true }
def PeBackUptoSaid : Prop := peBackUptoRow.holds Tryd.pinned (OpenSpec.upto peBackSpec)

/-- 'lintellaw16.PeParts', WHERE WHAT IT READS IS OF BULK AT MOST 1048576: true; the input reads as it did. -/
def pePartsUptoRow : OpenClaim := { program := "ytlfajfmkljnodaadoor", sum := "2ea071c3965400c030e767370a8fb9253d74d8d6faa50712e4c2d18c62aa4ae9", func := "lintel/lintellaw16.PeParts", spec := "peParts", unfollowed := true, recurses := true, named := ["unicode/utf8.first", "unicode/utf8.acceptRanges"], apart := false, laid := [("unicode/utf8.acceptRanges", laid_unicode_utf8_acceptRanges), ("unicode/utf8.first", laid_unicode_utf8_first)], narrowed := true }
def PePartsUptoSaid : Prop := pePartsUptoRow.holds Tryd.pinned (OpenSpec.upto pePartsSpec)

/-- 'lintellaw16.PeSigs', WHERE WHAT IT READS IS OF BULK AT MOST 1048576: true; the input reads as it did. -/
def peSigsUptoRow : OpenClaim := { program := "ytlfajfmkljnodaadoor", sum := "2ea071c3965400c030e767370a8fb9253d74d8d6faa50712e4c2d18c62aa4ae9", func := "lintel/lintellaw16.PeSigs", spec := "peSigs", unfollowed := true, recurses := true, named := ["unicode/utf8.first", "unicode/utf8.acceptRanges"], apart := false, laid := [("unicode/utf8.acceptRanges", laid_unicode_utf8_acceptRanges), ("unicode/utf8.first", laid_unicode_utf8_first)], narrowed := true }
def PeSigsUptoSaid : Prop := peSigsUptoRow.holds Tryd.pinned (OpenSpec.upto peSigsSpec)

/-- 'lintellaw16.PeGaps', WHERE WHAT IT READS IS OF BULK AT MOST 1048576: true; the input reads as it did. -/
def peGapsUptoRow : OpenClaim := { program := "ytlfajfmkljnodaadoor", sum := "2ea071c3965400c030e767370a8fb9253d74d8d6faa50712e4c2d18c62aa4ae9", func := "lintel/lintellaw16.PeGaps", spec := "peGaps", unfollowed := true, recurses := true, named := ["unicode/utf8.first", "unicode/utf8.acceptRanges"], apart := false, laid := [("unicode/utf8.acceptRanges", laid_unicode_utf8_acceptRanges), ("unicode/utf8.first", laid_unicode_utf8_first)], narrowed := true }
def PeGapsUptoSaid : Prop := peGapsUptoRow.holds Tryd.pinned (OpenSpec.upto peGapsSpec)

/-- 'lintellaw16.PeChecks', WHERE WHAT IT READS IS OF BULK AT MOST 1048576: true; the input reads as it did. -/
def peChecksUptoRow : OpenClaim := { program := "ytlfajfmkljnodaadoor", sum := "2ea071c3965400c030e767370a8fb9253d74d8d6faa50712e4c2d18c62aa4ae9", func := "lintel/lintellaw16.PeChecks", spec := "peChecks", unfollowed := true, recurses := true, named := ["unicode/utf8.first", "unicode/utf8.acceptRanges"], apart := false, laid := [("unicode/utf8.acceptRanges", laid_unicode_utf8_acceptRanges), ("unicode/utf8.first", laid_unicode_utf8_first)], narrowed := true }
def PeChecksUptoSaid : Prop := peChecksUptoRow.holds Tryd.pinned (OpenSpec.upto peChecksSpec)

/-- 'lintellaw16.PeTables', WHERE WHAT IT READS IS OF BULK AT MOST 1048576: true; the input reads as it did. -/
def peTablesUptoRow : OpenClaim := { program := "ytlfajfmkljnodaadoor", sum := "2ea071c3965400c030e767370a8fb9253d74d8d6faa50712e4c2d18c62aa4ae9", func := "lintel/lintellaw16.PeTables", spec := "peTables", unfollowed := true, recurses := true, named := ["unicode/utf8.first", "unicode/utf8.acceptRanges"], apart := false, laid := [("unicode/utf8.acceptRanges", laid_unicode_utf8_acceptRanges), ("unicode/utf8.first", laid_unicode_utf8_first)], narrowed := true }
def PeTablesUptoSaid : Prop := peTablesUptoRow.holds Tryd.pinned (OpenSpec.upto peTablesSpec)

/-- 'lintellaw16.PeFills', WHERE WHAT IT READS IS OF BULK AT MOST 1048576: true; the input reads as it did. -/
def peFillsUptoRow : OpenClaim := { program := "ytlfajfmkljnodaadoor", sum := "2ea071c3965400c030e767370a8fb9253d74d8d6faa50712e4c2d18c62aa4ae9", func := "lintel/lintellaw16.PeFills", spec := "peFills", unfollowed := true, recurses := true, named := ["unicode/utf8.first", "unicode/utf8.acceptRanges"], apart := false, laid := [("unicode/utf8.acceptRanges", laid_unicode_utf8_acceptRanges), ("unicode/utf8.first", laid_unicode_utf8_first)], narrowed := true }
def PeFillsUptoSaid : Prop := peFillsUptoRow.holds Tryd.pinned (OpenSpec.upto peFillsSpec)

/-- 'lintellaw16.PeCounts', WHERE WHAT IT READS IS OF BULK AT MOST 1048576: true; the input reads as it did. -/
def peCountsUptoRow : OpenClaim := { program := "ytlfajfmkljnodaadoor", sum := "2ea071c3965400c030e767370a8fb9253d74d8d6faa50712e4c2d18c62aa4ae9", func := "lintel/lintellaw16.PeCounts", spec := "peCounts", unfollowed := true, recurses := true, named := ["unicode/utf8.first", "unicode/utf8.acceptRanges"], apart := false, laid := [("unicode/utf8.acceptRanges", laid_unicode_utf8_acceptRanges), ("unicode/utf8.first", laid_unicode_utf8_first)], narrowed := true }
def PeCountsUptoSaid : Prop := peCountsUptoRow.holds Tryd.pinned (OpenSpec.upto peCountsSpec)

end Rows
end Go.Proofs.YtlfajfmkljnodaaDoor
