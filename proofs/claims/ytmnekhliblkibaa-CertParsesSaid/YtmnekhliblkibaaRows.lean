/-
  No cell of these rows narrows 'for every input' (looked for: loops, veiled, ifaces, maps, wideKeys, modest, calm, conditions, laid).
  DERIVED. THE GIVEN ROWS OF THIS SEAT. 11 by the template 'for every input the law returns true; each argument reads behind the call as it read before'; 0 by the template 'total and deterministic' (their statements: YtmnekhliblkibaaTotals.lean).
  GIVEN WITH THE SEED: the statements are not yours to turn. If you find one false, say at which input.
  Laid BY PROGRAM, IN A SANDBOX (cutbox-rows.mjs): the forced cells as the released guide's own fill.sh prints them over the translation d2e973d31c1e94c0… (all of the seat's roots in one cut). By AI agents, Wed Nov 11 2026. No macro, syntax, notation, axiom, sorry.
-/
import Derived.Test.YtmnekhliblkibaaChecked
import GoSem.Claim
import GoSem.ClaimJoined
import GoSem.ClaimMapViews
import Derived.JoinedTies
import Derived.KernelRfl
namespace Go.Proofs.Ytmnekhliblkibaa
/- THE CELL 'sum', in the pinned program and in every row, IS THE sha256 OF THE DUMP (.gsa) THAT YtmnekhliblkibaaProg.lean LOADS. Nothing in Lean hashes anything: it is a label: what it is worth is what the hold of that sum in a sandbox is worth. -/
noncomputable def Try.pinned : Pinned := { name := "ytmnekhliblkibaa", sum := "d2e973d31c1e94c09e02292f91b83fdb6e4634327fcd6203fb9cbf35a2e9d802", checked := Try.checked }
namespace Rows
def none {H : Type} : Left H := { results := [], args := [] }

/-- 'lintellaw12.CertParses': WHATEVER THE INPUT: true; the input reads as it did. -/
def certParsesSpec : ChangeSpec := { name := "certParses", fn := fun _ => fun
  | [d] => { results := [.lit (.bool true)], args := [d] }
  | _ => none }
def certParsesRow : OpenClaim := { program := "ytmnekhliblkibaa", sum := "d2e973d31c1e94c09e02292f91b83fdb6e4634327fcd6203fb9cbf35a2e9d802", func := "lintel/lintellaw12.CertParses", spec := "certParses", unfollowed := true, recurses := true, apart := false }
def CertParsesSaid : Prop := certParsesRow.holds Try.pinned (OpenSpec.ofChange certParsesSpec)

/-- ITS FALSE NEIGHBOUR: 'it returns false'. Refute it at one input. -/
def certParsesWrong : ChangeSpec := { name := "certParses", fn := fun _ => fun
  | [d] => { results := [.lit (.bool false)], args := [d] }
  | _ => none }
def CertParsesWrongFalsely : Prop := certParsesRow.holds Try.pinned (OpenSpec.ofChange certParsesWrong)

/-- 'lintellaw12.CertBack': WHATEVER THE INPUT: true; the input reads as it did. -/
def certBackSpec : ChangeSpec := { name := "certBack", fn := fun _ => fun
  | [d1, d2, d3] => { results := [.lit (.bool true)], args := [d1, d2, d3] }
  | _ => none }
def certBackRow : OpenClaim := { program := "ytmnekhliblkibaa", sum := "d2e973d31c1e94c09e02292f91b83fdb6e4634327fcd6203fb9cbf35a2e9d802", func := "lintel/lintellaw12.CertBack", spec := "certBack", unfollowed := true, recurses := true, apart := false }
def CertBackSaid : Prop := certBackRow.holds Try.pinned (OpenSpec.ofChange certBackSpec)

/-- ITS FALSE NEIGHBOUR: 'it returns false'. Refute it at one input. -/
def certBackWrong : ChangeSpec := { name := "certBack", fn := fun _ => fun
  | [d1, d2, d3] => { results := [.lit (.bool false)], args := [d1, d2, d3] }
  | _ => none }
def CertBackWrongFalsely : Prop := certBackRow.holds Try.pinned (OpenSpec.ofChange certBackWrong)

/-- 'lintellaw12.CertOne': WHATEVER THE INPUT: true; the input reads as it did. -/
def certOneSpec : ChangeSpec := { name := "certOne", fn := fun _ => fun
  | [d] => { results := [.lit (.bool true)], args := [d] }
  | _ => none }
def certOneRow : OpenClaim := { program := "ytmnekhliblkibaa", sum := "d2e973d31c1e94c09e02292f91b83fdb6e4634327fcd6203fb9cbf35a2e9d802", func := "lintel/lintellaw12.CertOne", spec := "certOne", unfollowed := true, recurses := true, apart := false }
def CertOneSaid : Prop := certOneRow.holds Try.pinned (OpenSpec.ofChange certOneSpec)

/-- ITS FALSE NEIGHBOUR: 'it returns false'. Refute it at one input. -/
def certOneWrong : ChangeSpec := { name := "certOne", fn := fun _ => fun
  | [d] => { results := [.lit (.bool false)], args := [d] }
  | _ => none }
def CertOneWrongFalsely : Prop := certOneRow.holds Try.pinned (OpenSpec.ofChange certOneWrong)

/-- 'lintellaw12.CertStrange': WHATEVER THE INPUT: true; the input reads as it did. -/
def certStrangeSpec : ChangeSpec := { name := "certStrange", fn := fun _ => fun
  | [d1, d2, d3] => { results := [.lit (.bool true)], args := [d1, d2, d3] }
  | _ => none }
def certStrangeRow : OpenClaim := { program := "ytmnekhliblkibaa", sum := "d2e973d31c1e94c09e02292f91b83fdb6e4634327fcd6203fb9cbf35a2e9d802", func := "lintel/lintellaw12.CertStrange", spec := "certStrange", unfollowed := true, recurses := true, apart := false }
def CertStrangeSaid : Prop := certStrangeRow.holds Try.pinned (OpenSpec.ofChange certStrangeSpec)

/-- ITS FALSE NEIGHBOUR: 'it returns false'. Refute it at one input. -/
def certStrangeWrong : ChangeSpec := { name := "certStrange", fn := fun _ => fun
  | [d1, d2, d3] => { results := [.lit (.bool false)], args := [d1, d2, d3] }
  | _ => none }
def CertStrangeWrongFalsely : Prop := certStrangeRow.holds Try.pinned (OpenSpec.ofChange certStrangeWrong)

/-- 'lintellaw12.CertUsages': WHATEVER THE INPUT: true; the input reads as it did. -/
def certUsagesSpec : ChangeSpec := { name := "certUsages", fn := fun _ => fun
  | [d1, d2, d3] => { results := [.lit (.bool true)], args := [d1, d2, d3] }
  | _ => none }
def certUsagesRow : OpenClaim := { program := "ytmnekhliblkibaa", sum := "d2e973d31c1e94c09e02292f91b83fdb6e4634327fcd6203fb9cbf35a2e9d802", func := "lintel/lintellaw12.CertUsages", spec := "certUsages", unfollowed := true, recurses := true, apart := false }
def CertUsagesSaid : Prop := certUsagesRow.holds Try.pinned (OpenSpec.ofChange certUsagesSpec)

/-- ITS FALSE NEIGHBOUR: 'it returns false'. Refute it at one input. -/
def certUsagesWrong : ChangeSpec := { name := "certUsages", fn := fun _ => fun
  | [d1, d2, d3] => { results := [.lit (.bool false)], args := [d1, d2, d3] }
  | _ => none }
def CertUsagesWrongFalsely : Prop := certUsagesRow.holds Try.pinned (OpenSpec.ofChange certUsagesWrong)

/-- 'lintellaw12.CertPaths': WHATEVER THE INPUT: true; the input reads as it did. -/
def certPathsSpec : ChangeSpec := { name := "certPaths", fn := fun _ => fun
  | [d] => { results := [.lit (.bool true)], args := [d] }
  | _ => none }
def certPathsRow : OpenClaim := { program := "ytmnekhliblkibaa", sum := "d2e973d31c1e94c09e02292f91b83fdb6e4634327fcd6203fb9cbf35a2e9d802", func := "lintel/lintellaw12.CertPaths", spec := "certPaths", unfollowed := true, recurses := true, apart := false }
def CertPathsSaid : Prop := certPathsRow.holds Try.pinned (OpenSpec.ofChange certPathsSpec)

/-- ITS FALSE NEIGHBOUR: 'it returns false'. Refute it at one input. -/
def certPathsWrong : ChangeSpec := { name := "certPaths", fn := fun _ => fun
  | [d] => { results := [.lit (.bool false)], args := [d] }
  | _ => none }
def CertPathsWrongFalsely : Prop := certPathsRow.holds Try.pinned (OpenSpec.ofChange certPathsWrong)

/-- 'lintellaw12.CertPurposes': WHATEVER THE INPUT: true; the input reads as it did. -/
def certPurposesSpec : ChangeSpec := { name := "certPurposes", fn := fun _ => fun
  | [d1, d2, d3] => { results := [.lit (.bool true)], args := [d1, d2, d3] }
  | _ => none }
def certPurposesRow : OpenClaim := { program := "ytmnekhliblkibaa", sum := "d2e973d31c1e94c09e02292f91b83fdb6e4634327fcd6203fb9cbf35a2e9d802", func := "lintel/lintellaw12.CertPurposes", spec := "certPurposes", unfollowed := true, recurses := true, apart := false }
def CertPurposesSaid : Prop := certPurposesRow.holds Try.pinned (OpenSpec.ofChange certPurposesSpec)

/-- ITS FALSE NEIGHBOUR: 'it returns false'. Refute it at one input. -/
def certPurposesWrong : ChangeSpec := { name := "certPurposes", fn := fun _ => fun
  | [d1, d2, d3] => { results := [.lit (.bool false)], args := [d1, d2, d3] }
  | _ => none }
def CertPurposesWrongFalsely : Prop := certPurposesRow.holds Try.pinned (OpenSpec.ofChange certPurposesWrong)

/-- 'lintellaw12.CertVersions': WHATEVER THE INPUT: true; the input reads as it did. -/
def certVersionsSpec : ChangeSpec := { name := "certVersions", fn := fun _ => fun
  | [d1, d2] => { results := [.lit (.bool true)], args := [d1, d2] }
  | _ => none }
def certVersionsRow : OpenClaim := { program := "ytmnekhliblkibaa", sum := "d2e973d31c1e94c09e02292f91b83fdb6e4634327fcd6203fb9cbf35a2e9d802", func := "lintel/lintellaw12.CertVersions", spec := "certVersions", unfollowed := true, recurses := true, apart := false }
def CertVersionsSaid : Prop := certVersionsRow.holds Try.pinned (OpenSpec.ofChange certVersionsSpec)

/-- ITS FALSE NEIGHBOUR: 'it returns false'. Refute it at one input. -/
def certVersionsWrong : ChangeSpec := { name := "certVersions", fn := fun _ => fun
  | [d1, d2] => { results := [.lit (.bool false)], args := [d1, d2] }
  | _ => none }
def CertVersionsWrongFalsely : Prop := certVersionsRow.holds Try.pinned (OpenSpec.ofChange certVersionsWrong)

/-- 'lintellaw12.CertMethods': WHATEVER THE INPUT: true; the input reads as it did. -/
def certMethodsSpec : ChangeSpec := { name := "certMethods", fn := fun _ => fun
  | [d1, d2] => { results := [.lit (.bool true)], args := [d1, d2] }
  | _ => none }
def certMethodsRow : OpenClaim := { program := "ytmnekhliblkibaa", sum := "d2e973d31c1e94c09e02292f91b83fdb6e4634327fcd6203fb9cbf35a2e9d802", func := "lintel/lintellaw12.CertMethods", spec := "certMethods", unfollowed := true, recurses := true, apart := false }
def CertMethodsSaid : Prop := certMethodsRow.holds Try.pinned (OpenSpec.ofChange certMethodsSpec)

/-- ITS FALSE NEIGHBOUR: 'it returns false'. Refute it at one input. -/
def certMethodsWrong : ChangeSpec := { name := "certMethods", fn := fun _ => fun
  | [d1, d2] => { results := [.lit (.bool false)], args := [d1, d2] }
  | _ => none }
def CertMethodsWrongFalsely : Prop := certMethodsRow.holds Try.pinned (OpenSpec.ofChange certMethodsWrong)

/-- 'lintellaw12.CertSerials': WHATEVER THE INPUT: true; the input reads as it did. -/
def certSerialsSpec : ChangeSpec := { name := "certSerials", fn := fun _ => fun
  | [d1, d2] => { results := [.lit (.bool true)], args := [d1, d2] }
  | _ => none }
def certSerialsRow : OpenClaim := { program := "ytmnekhliblkibaa", sum := "d2e973d31c1e94c09e02292f91b83fdb6e4634327fcd6203fb9cbf35a2e9d802", func := "lintel/lintellaw12.CertSerials", spec := "certSerials", unfollowed := true, recurses := true, apart := false }
def CertSerialsSaid : Prop := certSerialsRow.holds Try.pinned (OpenSpec.ofChange certSerialsSpec)

/-- ITS FALSE NEIGHBOUR: 'it returns false'. Refute it at one input. -/
def certSerialsWrong : ChangeSpec := { name := "certSerials", fn := fun _ => fun
  | [d1, d2] => { results := [.lit (.bool false)], args := [d1, d2] }
  | _ => none }
def CertSerialsWrongFalsely : Prop := certSerialsRow.holds Try.pinned (OpenSpec.ofChange certSerialsWrong)

/-- 'lintellaw12.CertNames': WHATEVER THE INPUT: true; the input reads as it did. -/
def certNamesSpec : ChangeSpec := { name := "certNames", fn := fun _ => fun
  | [d] => { results := [.lit (.bool true)], args := [d] }
  | _ => none }
def certNamesRow : OpenClaim := { program := "ytmnekhliblkibaa", sum := "d2e973d31c1e94c09e02292f91b83fdb6e4634327fcd6203fb9cbf35a2e9d802", func := "lintel/lintellaw12.CertNames", spec := "certNames", unfollowed := true, recurses := true, apart := false }
def CertNamesSaid : Prop := certNamesRow.holds Try.pinned (OpenSpec.ofChange certNamesSpec)

/-- ITS FALSE NEIGHBOUR: 'it returns false'. Refute it at one input. -/
def certNamesWrong : ChangeSpec := { name := "certNames", fn := fun _ => fun
  | [d] => { results := [.lit (.bool false)], args := [d] }
  | _ => none }
def CertNamesWrongFalsely : Prop := certNamesRow.holds Try.pinned (OpenSpec.ofChange certNamesWrong)

/- THE SECOND FORM. 'bulk': how many values and letters a reading holds, each counted each time it is reached (what is shared counts as often as it is met; a slice's spare places count too). A statement '..UptoSaid' is the law's where the arguments, and the package variables that the reading takes, are together of bulk at most 1048576: NARROWER than '..Said'. Prove '..Said' where nothing that the law and all that it calls make is longer than what came in: it says more and counts as full. Else prove '..UptoSaid'. A law counts once. -/
mutual
def uptoBulk {H : Type} : DataW H → Nat
  | .lit (.string bytes) => bytes.length + 1
  | .lit _ => 1
  | .nil => 1
  | .ptr d => uptoBulk d + 1
  | .slice elems spare => uptoBulkAll elems + uptoBulkAll spare + 1
  | .agg parts => uptoBulkAll parts + 1
  | .iface _ d => uptoBulk d + 1
  | .map entries => uptoBulkEntries entries + 1
  | .held _ => 1
def uptoBulkAll {H : Type} : List (DataW H) → Nat
  | [] => 0
  | d :: r => uptoBulk d + uptoBulkAll r
def uptoBulkEntries {H : Type} : List (Lit × DataW H) → Nat
  | [] => 0
  | x :: r => uptoBulkEntry x + uptoBulkEntries r
def uptoBulkEntry {H : Type} : Lit × DataW H → Nat
  | (.string bytes, d) => bytes.length + uptoBulk d + 1
  | (_, d) => uptoBulk d + 1
 end
def uptoSmall : (H : Type) → List (DataW H) → Bool := fun _ ds => decide (uptoBulkAll ds ≤ 1048576)
def OpenSpec.upto (s : _root_.Go.ChangeSpec) : _root_.Go.OpenSpec := { _root_.Go.OpenSpec.ofChange s with cond := some uptoSmall }

/-- 'lintellaw12.CertParses', WHERE WHAT IT READS IS OF BULK AT MOST 1048576: true; the input reads as it did. -/
def certParsesUptoRow : OpenClaim := { program := "ytmnekhliblkibaa", sum := "d2e973d31c1e94c09e02292f91b83fdb6e4634327fcd6203fb9cbf35a2e9d802", func := "lintel/lintellaw12.CertParses", spec := "certParses", unfollowed := true, recurses := true, apart := false, narrowed := true }
def CertParsesUptoSaid : Prop := certParsesUptoRow.holds Try.pinned (OpenSpec.upto certParsesSpec)

/-- 'lintellaw12.CertBack', WHERE WHAT IT READS IS OF BULK AT MOST 1048576: true; the input reads as it did. -/
def certBackUptoRow : OpenClaim := { program := "ytmnekhliblkibaa", sum := "d2e973d31c1e94c09e02292f91b83fdb6e4634327fcd6203fb9cbf35a2e9d802", func := "lintel/lintellaw12.CertBack", spec := "certBack", unfollowed := true, recurses := true, apart := false, narrowed := true }
def CertBackUptoSaid : Prop := certBackUptoRow.holds Try.pinned (OpenSpec.upto certBackSpec)

/-- 'lintellaw12.CertOne', WHERE WHAT IT READS IS OF BULK AT MOST 1048576: true; the input reads as it did. -/
def certOneUptoRow : OpenClaim := { program := "ytmnekhliblkibaa", sum := "d2e973d31c1e94c09e02292f91b83fdb6e4634327fcd6203fb9cbf35a2e9d802", func := "lintel/lintellaw12.CertOne", spec := "certOne", unfollowed := true, recurses := true, apart := false, narrowed := true }
def CertOneUptoSaid : Prop := certOneUptoRow.holds Try.pinned (OpenSpec.upto certOneSpec)

/-- 'lintellaw12.CertStrange', WHERE WHAT IT READS IS OF BULK AT MOST 1048576: true; the input reads as it did. -/
def certStrangeUptoRow : OpenClaim := { program := "ytmnekhliblkibaa", sum := "d2e973d31c1e94c09e02292f91b83fdb6e4634327fcd6203fb9cbf35a2e9d802", func := "lintel/lintellaw12.CertStrange", spec := "certStrange", unfollowed := true, recurses := true, apart := false, narrowed := true }
def CertStrangeUptoSaid : Prop := certStrangeUptoRow.holds Try.pinned (OpenSpec.upto certStrangeSpec)

/-- 'lintellaw12.CertUsages', WHERE WHAT IT READS IS OF BULK AT MOST 1048576: true; the input reads as it did. -/
def certUsagesUptoRow : OpenClaim := { program := "ytmnekhliblkibaa", sum := "d2e973d31c1e94c09e02292f91b83fdb6e4634327fcd6203fb9cbf35a2e9d802", func := "lintel/lintellaw12.CertUsages", spec := "certUsages", unfollowed := true, recurses := true, apart := false, narrowed := true }
def CertUsagesUptoSaid : Prop := certUsagesUptoRow.holds Try.pinned (OpenSpec.upto certUsagesSpec)

/-- 'lintellaw12.CertPaths', WHERE WHAT IT READS IS OF BULK AT MOST 1048576: true; the input reads as it did. -/
def certPathsUptoRow : OpenClaim := { program := "ytmnekhliblkibaa", sum := "d2e973d31c1e94c09e02292f91b83fdb6e4634327fcd6203fb9cbf35a2e9d802", func := "lintel/lintellaw12.CertPaths", spec := "certPaths", unfollowed := true, recurses := true, apart := false, narrowed := true }
def CertPathsUptoSaid : Prop := certPathsUptoRow.holds Try.pinned (OpenSpec.upto certPathsSpec)

/-- 'lintellaw12.CertPurposes', WHERE WHAT IT READS IS OF BULK AT MOST 1048576: true; the input reads as it did. -/
def certPurposesUptoRow : OpenClaim := { program := "ytmnekhliblkibaa", sum := "d2e973d31c1e94c09e02292f91b83fdb6e4634327fcd6203fb9cbf35a2e9d802", func := "lintel/lintellaw12.CertPurposes", spec := "certPurposes", unfollowed := true, recurses := true, apart := false, narrowed := true }
def CertPurposesUptoSaid : Prop := certPurposesUptoRow.holds Try.pinned (OpenSpec.upto certPurposesSpec)

/-- 'lintellaw12.CertVersions', WHERE WHAT IT READS IS OF BULK AT MOST 1048576: true; the input reads as it did. -/
def certVersionsUptoRow : OpenClaim := { program := "ytmnekhliblkibaa", sum := "d2e973d31c1e94c09e02292f91b83fdb6e4634327fcd6203fb9cbf35a2e9d802", func := "lintel/lintellaw12.CertVersions", spec := "certVersions", unfollowed := true, recurses := true, apart := false, narrowed := true }
def CertVersionsUptoSaid : Prop := certVersionsUptoRow.holds Try.pinned (OpenSpec.upto certVersionsSpec)

/-- 'lintellaw12.CertMethods', WHERE WHAT IT READS IS OF BULK AT MOST 1048576: true; the input reads as it did. -/
def certMethodsUptoRow : OpenClaim := { program := "ytmnekhliblkibaa", sum := "d2e973d31c1e94c09e02292f91b83fdb6e4634327fcd6203fb9cbf35a2e9d802", func := "lintel/lintellaw12.CertMethods", spec := "certMethods", unfollowed := true, recurses := true, apart := false, narrowed := true }
def CertMethodsUptoSaid : Prop := certMethodsUptoRow.holds Try.pinned (OpenSpec.upto certMethodsSpec)

/-- 'lintellaw12.CertSerials', WHERE WHAT IT READS IS OF BULK AT MOST 1048576: true; the input reads as it did. -/
def certSerialsUptoRow : OpenClaim := { program := "ytmnekhliblkibaa", sum := "d2e973d31c1e94c09e02292f91b83fdb6e4634327fcd6203fb9cbf35a2e9d802", func := "lintel/lintellaw12.CertSerials", spec := "certSerials", unfollowed := true, recurses := true, apart := false, narrowed := true }
def CertSerialsUptoSaid : Prop := certSerialsUptoRow.holds Try.pinned (OpenSpec.upto certSerialsSpec)

/-- 'lintellaw12.CertNames', WHERE WHAT IT READS IS OF BULK AT MOST 1048576: true; the input reads as it did. -/
def certNamesUptoRow : OpenClaim := { program := "ytmnekhliblkibaa", sum := "d2e973d31c1e94c09e02292f91b83fdb6e4634327fcd6203fb9cbf35a2e9d802", func := "lintel/lintellaw12.CertNames", spec := "certNames", unfollowed := true, recurses := true, apart := false, narrowed := true }
def CertNamesUptoSaid : Prop := certNamesUptoRow.holds Try.pinned (OpenSpec.upto certNamesSpec)

end Rows
end Go.Proofs.Ytmnekhliblkibaa
