/-
  No cell of these rows narrows 'for every input' (looked for: loops, veiled, ifaces, maps, wideKeys, modest, calm, conditions, laid).
  DERIVED. THE GIVEN ROWS OF THIS SEAT. 14 by the template 'for every input the law returns true; each argument reads behind the call as it read before'; 0 by the template 'total and deterministic' (their statements: YtadkiildjehdmaaTotals.lean).
  GIVEN WITH THE SEED: the statements are not yours to turn. If you find one false, say at which input.
  Laid BY PROGRAM, IN A SANDBOX (cutbox-rows.mjs): the forced cells as the released guide's own fill.sh prints them over the translation 8fb4e68fac1ef89b… (all of the seat's roots in one cut). By AI agents, Wed Nov 11 2026. No macro, syntax, notation, axiom, sorry.
-/
import Derived.Test.YtadkiildjehdmaaChecked
import GoSem.Claim
import GoSem.ClaimJoined
import GoSem.ClaimMapViews
import Derived.JoinedTies
import Derived.KernelRfl
namespace Go.Proofs.Ytadkiildjehdmaa
/- THE CELL 'sum', in the pinned program and in every row, IS THE sha256 OF THE DUMP (.gsa) THAT YtadkiildjehdmaaProg.lean LOADS. Nothing in Lean hashes anything: it is a label: what it is worth is what the hold of that sum in a sandbox is worth. -/
noncomputable def Try.pinned : Pinned := { name := "ytadkiildjehdmaa", sum := "8fb4e68fac1ef89b3c649b2740a0c671403b414c9e3c0adc764089b672de1c41", checked := Try.checked }
namespace Rows
def none {H : Type} : Left H := { results := [], args := [] }

/-- 'lintellaw10.DerParses': WHATEVER THE INPUT: true; the input reads as it did. -/
def derParsesSpec : ChangeSpec := { name := "derParses", fn := fun _ => fun
  | [d] => { results := [.lit (.bool true)], args := [d] }
  | _ => none }
def derParsesRow : OpenClaim := { program := "ytadkiildjehdmaa", sum := "8fb4e68fac1ef89b3c649b2740a0c671403b414c9e3c0adc764089b672de1c41", func := "lintel/lintellaw10.DerParses", spec := "derParses", unfollowed := true, recurses := true, apart := false }
def DerParsesSaid : Prop := derParsesRow.holds Try.pinned (OpenSpec.ofChange derParsesSpec)

/-- ITS FALSE NEIGHBOUR: 'it returns false'. Refute it at one input. -/
def derParsesWrong : ChangeSpec := { name := "derParses", fn := fun _ => fun
  | [d] => { results := [.lit (.bool false)], args := [d] }
  | _ => none }
def DerParsesWrongFalsely : Prop := derParsesRow.holds Try.pinned (OpenSpec.ofChange derParsesWrong)

/-- 'lintellaw10.DerWrites': WHATEVER THE INPUT: true; the input reads as it did. -/
def derWritesSpec : ChangeSpec := { name := "derWrites", fn := fun _ => fun
  | [d1, d2, d3] => { results := [.lit (.bool true)], args := [d1, d2, d3] }
  | _ => none }
def derWritesRow : OpenClaim := { program := "ytadkiildjehdmaa", sum := "8fb4e68fac1ef89b3c649b2740a0c671403b414c9e3c0adc764089b672de1c41", func := "lintel/lintellaw10.DerWrites", spec := "derWrites", unfollowed := true, recurses := true, apart := false }
def DerWritesSaid : Prop := derWritesRow.holds Try.pinned (OpenSpec.ofChange derWritesSpec)

/-- ITS FALSE NEIGHBOUR: 'it returns false'. Refute it at one input. -/
def derWritesWrong : ChangeSpec := { name := "derWrites", fn := fun _ => fun
  | [d1, d2, d3] => { results := [.lit (.bool false)], args := [d1, d2, d3] }
  | _ => none }
def DerWritesWrongFalsely : Prop := derWritesRow.holds Try.pinned (OpenSpec.ofChange derWritesWrong)

/-- 'lintellaw10.DerDepth': WHATEVER THE INPUT: true; the input reads as it did. -/
def derDepthSpec : ChangeSpec := { name := "derDepth", fn := fun _ => fun
  | [d1, d2, d3] => { results := [.lit (.bool true)], args := [d1, d2, d3] }
  | _ => none }
def derDepthRow : OpenClaim := { program := "ytadkiildjehdmaa", sum := "8fb4e68fac1ef89b3c649b2740a0c671403b414c9e3c0adc764089b672de1c41", func := "lintel/lintellaw10.DerDepth", spec := "derDepth", unfollowed := true, recurses := true, apart := false }
def DerDepthSaid : Prop := derDepthRow.holds Try.pinned (OpenSpec.ofChange derDepthSpec)

/-- ITS FALSE NEIGHBOUR: 'it returns false'. Refute it at one input. -/
def derDepthWrong : ChangeSpec := { name := "derDepth", fn := fun _ => fun
  | [d1, d2, d3] => { results := [.lit (.bool false)], args := [d1, d2, d3] }
  | _ => none }
def DerDepthWrongFalsely : Prop := derDepthRow.holds Try.pinned (OpenSpec.ofChange derDepthWrong)

/-- 'lintellaw10.DerLengths': WHATEVER THE INPUT: true; the input reads as it did. -/
def derLengthsSpec : ChangeSpec := { name := "derLengths", fn := fun _ => fun
  | [d] => { results := [.lit (.bool true)], args := [d] }
  | _ => none }
def derLengthsRow : OpenClaim := { program := "ytadkiildjehdmaa", sum := "8fb4e68fac1ef89b3c649b2740a0c671403b414c9e3c0adc764089b672de1c41", func := "lintel/lintellaw10.DerLengths", spec := "derLengths", unfollowed := true, recurses := true, apart := false }
def DerLengthsSaid : Prop := derLengthsRow.holds Try.pinned (OpenSpec.ofChange derLengthsSpec)

/-- ITS FALSE NEIGHBOUR: 'it returns false'. Refute it at one input. -/
def derLengthsWrong : ChangeSpec := { name := "derLengths", fn := fun _ => fun
  | [d] => { results := [.lit (.bool false)], args := [d] }
  | _ => none }
def DerLengthsWrongFalsely : Prop := derLengthsRow.holds Try.pinned (OpenSpec.ofChange derLengthsWrong)

/-- 'lintellaw10.DerMinimal': WHATEVER THE INPUT: true; the input reads as it did. -/
def derMinimalSpec : ChangeSpec := { name := "derMinimal", fn := fun _ => fun
  | [d1, d2, d3] => { results := [.lit (.bool true)], args := [d1, d2, d3] }
  | _ => none }
def derMinimalRow : OpenClaim := { program := "ytadkiildjehdmaa", sum := "8fb4e68fac1ef89b3c649b2740a0c671403b414c9e3c0adc764089b672de1c41", func := "lintel/lintellaw10.DerMinimal", spec := "derMinimal", unfollowed := true, recurses := true, apart := false }
def DerMinimalSaid : Prop := derMinimalRow.holds Try.pinned (OpenSpec.ofChange derMinimalSpec)

/-- ITS FALSE NEIGHBOUR: 'it returns false'. Refute it at one input. -/
def derMinimalWrong : ChangeSpec := { name := "derMinimal", fn := fun _ => fun
  | [d1, d2, d3] => { results := [.lit (.bool false)], args := [d1, d2, d3] }
  | _ => none }
def DerMinimalWrongFalsely : Prop := derMinimalRow.holds Try.pinned (OpenSpec.ofChange derMinimalWrong)

/-- 'lintellaw10.DerPrefixes': WHATEVER THE INPUT: true; the input reads as it did. -/
def derPrefixesSpec : ChangeSpec := { name := "derPrefixes", fn := fun _ => fun
  | [d] => { results := [.lit (.bool true)], args := [d] }
  | _ => none }
def derPrefixesRow : OpenClaim := { program := "ytadkiildjehdmaa", sum := "8fb4e68fac1ef89b3c649b2740a0c671403b414c9e3c0adc764089b672de1c41", func := "lintel/lintellaw10.DerPrefixes", spec := "derPrefixes", unfollowed := true, recurses := true, apart := false }
def DerPrefixesSaid : Prop := derPrefixesRow.holds Try.pinned (OpenSpec.ofChange derPrefixesSpec)

/-- ITS FALSE NEIGHBOUR: 'it returns false'. Refute it at one input. -/
def derPrefixesWrong : ChangeSpec := { name := "derPrefixes", fn := fun _ => fun
  | [d] => { results := [.lit (.bool false)], args := [d] }
  | _ => none }
def DerPrefixesWrongFalsely : Prop := derPrefixesRow.holds Try.pinned (OpenSpec.ofChange derPrefixesWrong)

/-- 'lintellaw10.DerTwo': WHATEVER THE INPUT: true; the input reads as it did. -/
def derTwoSpec : ChangeSpec := { name := "derTwo", fn := fun _ => fun
  | [d] => { results := [.lit (.bool true)], args := [d] }
  | _ => none }
def derTwoRow : OpenClaim := { program := "ytadkiildjehdmaa", sum := "8fb4e68fac1ef89b3c649b2740a0c671403b414c9e3c0adc764089b672de1c41", func := "lintel/lintellaw10.DerTwo", spec := "derTwo", unfollowed := true, recurses := true, apart := false }
def DerTwoSaid : Prop := derTwoRow.holds Try.pinned (OpenSpec.ofChange derTwoSpec)

/-- ITS FALSE NEIGHBOUR: 'it returns false'. Refute it at one input. -/
def derTwoWrong : ChangeSpec := { name := "derTwo", fn := fun _ => fun
  | [d] => { results := [.lit (.bool false)], args := [d] }
  | _ => none }
def DerTwoWrongFalsely : Prop := derTwoRow.holds Try.pinned (OpenSpec.ofChange derTwoWrong)

/-- 'lintellaw10.DerWithin': WHATEVER THE INPUT: true; the input reads as it did. -/
def derWithinSpec : ChangeSpec := { name := "derWithin", fn := fun _ => fun
  | [d] => { results := [.lit (.bool true)], args := [d] }
  | _ => none }
def derWithinRow : OpenClaim := { program := "ytadkiildjehdmaa", sum := "8fb4e68fac1ef89b3c649b2740a0c671403b414c9e3c0adc764089b672de1c41", func := "lintel/lintellaw10.DerWithin", spec := "derWithin", unfollowed := true, recurses := true, apart := false }
def DerWithinSaid : Prop := derWithinRow.holds Try.pinned (OpenSpec.ofChange derWithinSpec)

/-- ITS FALSE NEIGHBOUR: 'it returns false'. Refute it at one input. -/
def derWithinWrong : ChangeSpec := { name := "derWithin", fn := fun _ => fun
  | [d] => { results := [.lit (.bool false)], args := [d] }
  | _ => none }
def DerWithinWrongFalsely : Prop := derWithinRow.holds Try.pinned (OpenSpec.ofChange derWithinWrong)

/-- 'lintellaw10.DerMinus': WHATEVER THE INPUT: true; the input reads as it did. -/
def derMinusSpec : ChangeSpec := { name := "derMinus", fn := fun _ => fun
  | [d] => { results := [.lit (.bool true)], args := [d] }
  | _ => none }
def derMinusRow : OpenClaim := { program := "ytadkiildjehdmaa", sum := "8fb4e68fac1ef89b3c649b2740a0c671403b414c9e3c0adc764089b672de1c41", func := "lintel/lintellaw10.DerMinus", spec := "derMinus", unfollowed := true, recurses := true, apart := false }
def DerMinusSaid : Prop := derMinusRow.holds Try.pinned (OpenSpec.ofChange derMinusSpec)

/-- ITS FALSE NEIGHBOUR: 'it returns false'. Refute it at one input. -/
def derMinusWrong : ChangeSpec := { name := "derMinus", fn := fun _ => fun
  | [d] => { results := [.lit (.bool false)], args := [d] }
  | _ => none }
def DerMinusWrongFalsely : Prop := derMinusRow.holds Try.pinned (OpenSpec.ofChange derMinusWrong)

/-- 'lintellaw10.DerBits': WHATEVER THE INPUT: true; the input reads as it did. -/
def derBitsSpec : ChangeSpec := { name := "derBits", fn := fun _ => fun
  | [d1, d2] => { results := [.lit (.bool true)], args := [d1, d2] }
  | _ => none }
def derBitsRow : OpenClaim := { program := "ytadkiildjehdmaa", sum := "8fb4e68fac1ef89b3c649b2740a0c671403b414c9e3c0adc764089b672de1c41", func := "lintel/lintellaw10.DerBits", spec := "derBits", unfollowed := true, recurses := true, apart := false }
def DerBitsSaid : Prop := derBitsRow.holds Try.pinned (OpenSpec.ofChange derBitsSpec)

/-- ITS FALSE NEIGHBOUR: 'it returns false'. Refute it at one input. -/
def derBitsWrong : ChangeSpec := { name := "derBits", fn := fun _ => fun
  | [d1, d2] => { results := [.lit (.bool false)], args := [d1, d2] }
  | _ => none }
def DerBitsWrongFalsely : Prop := derBitsRow.holds Try.pinned (OpenSpec.ofChange derBitsWrong)

/-- 'lintellaw10.DerSmall': WHATEVER THE INPUT: true; the input reads as it did. -/
def derSmallSpec : ChangeSpec := { name := "derSmall", fn := fun _ => fun
  | [d1, d2, d3] => { results := [.lit (.bool true)], args := [d1, d2, d3] }
  | _ => none }
def derSmallRow : OpenClaim := { program := "ytadkiildjehdmaa", sum := "8fb4e68fac1ef89b3c649b2740a0c671403b414c9e3c0adc764089b672de1c41", func := "lintel/lintellaw10.DerSmall", spec := "derSmall", unfollowed := true, recurses := true, apart := false }
def DerSmallSaid : Prop := derSmallRow.holds Try.pinned (OpenSpec.ofChange derSmallSpec)

/-- ITS FALSE NEIGHBOUR: 'it returns false'. Refute it at one input. -/
def derSmallWrong : ChangeSpec := { name := "derSmall", fn := fun _ => fun
  | [d1, d2, d3] => { results := [.lit (.bool false)], args := [d1, d2, d3] }
  | _ => none }
def DerSmallWrongFalsely : Prop := derSmallRow.holds Try.pinned (OpenSpec.ofChange derSmallWrong)

/-- 'lintellaw10.DerAlls': WHATEVER THE INPUT: true; the input reads as it did. -/
def derAllsSpec : ChangeSpec := { name := "derAlls", fn := fun _ => fun
  | [d] => { results := [.lit (.bool true)], args := [d] }
  | _ => none }
def derAllsRow : OpenClaim := { program := "ytadkiildjehdmaa", sum := "8fb4e68fac1ef89b3c649b2740a0c671403b414c9e3c0adc764089b672de1c41", func := "lintel/lintellaw10.DerAlls", spec := "derAlls", inPlace := ["internal/bytealg.Compare"], unfollowed := true, recurses := true, apart := false }
def DerAllsSaid : Prop := derAllsRow.holds Try.pinned (OpenSpec.ofChange derAllsSpec)

/-- ITS FALSE NEIGHBOUR: 'it returns false'. Refute it at one input. -/
def derAllsWrong : ChangeSpec := { name := "derAlls", fn := fun _ => fun
  | [d] => { results := [.lit (.bool false)], args := [d] }
  | _ => none }
def DerAllsWrongFalsely : Prop := derAllsRow.holds Try.pinned (OpenSpec.ofChange derAllsWrong)

/-- 'lintellaw10.DerSets': WHATEVER THE INPUT: true; the input reads as it did. -/
def derSetsSpec : ChangeSpec := { name := "derSets", fn := fun _ => fun
  | [d] => { results := [.lit (.bool true)], args := [d] }
  | _ => none }
def derSetsRow : OpenClaim := { program := "ytadkiildjehdmaa", sum := "8fb4e68fac1ef89b3c649b2740a0c671403b414c9e3c0adc764089b672de1c41", func := "lintel/lintellaw10.DerSets", spec := "derSets", inPlace := ["internal/bytealg.Compare"], unfollowed := true, recurses := true, apart := false }
def DerSetsSaid : Prop := derSetsRow.holds Try.pinned (OpenSpec.ofChange derSetsSpec)

/-- ITS FALSE NEIGHBOUR: 'it returns false'. Refute it at one input. -/
def derSetsWrong : ChangeSpec := { name := "derSets", fn := fun _ => fun
  | [d] => { results := [.lit (.bool false)], args := [d] }
  | _ => none }
def DerSetsWrongFalsely : Prop := derSetsRow.holds Try.pinned (OpenSpec.ofChange derSetsWrong)

/-- 'lintellaw10.DerSorted': WHATEVER THE INPUT: true; the input reads as it did. -/
def derSortedSpec : ChangeSpec := { name := "derSorted", fn := fun _ => fun
  | [d1, d2] => { results := [.lit (.bool true)], args := [d1, d2] }
  | _ => none }
def derSortedRow : OpenClaim := { program := "ytadkiildjehdmaa", sum := "8fb4e68fac1ef89b3c649b2740a0c671403b414c9e3c0adc764089b672de1c41", func := "lintel/lintellaw10.DerSorted", spec := "derSorted", inPlace := ["internal/bytealg.Compare"], unfollowed := true, recurses := true, apart := false }
def DerSortedSaid : Prop := derSortedRow.holds Try.pinned (OpenSpec.ofChange derSortedSpec)

/-- ITS FALSE NEIGHBOUR: 'it returns false'. Refute it at one input. -/
def derSortedWrong : ChangeSpec := { name := "derSorted", fn := fun _ => fun
  | [d1, d2] => { results := [.lit (.bool false)], args := [d1, d2] }
  | _ => none }
def DerSortedWrongFalsely : Prop := derSortedRow.holds Try.pinned (OpenSpec.ofChange derSortedWrong)

/- THE SECOND FORM. 'bulk': how many values and letters a reading holds, each counted each time it is reached (what is shared counts as often as it is met; a slice's spare places count too). A statement '..UptoSaid' is the law's where the arguments, and the package variables that the reading takes, are together of bulk at most 1048576: NARROWER than '..Said'. Prove '..Said' where nothing that the law and all that it calls make is longer than what came in: it says more and counts as full. Else prove '..UptoSaid'. A law counts once. -/
mutual
def uptoBulk {H : Type} : DataW H → Nat
  | .lit (.string bytes) => bytes.length + 1
  | .lit _ => 1
  | .nil => 1
  | .ptr d => uptoBulk d + 1
  | .slice elems spare => uptoBulkAll elems + uptoBulkAll spare + 1
  | .agg parts => uptoBulkAll parts + 1
  | .iface _ d => uptoBulk d + 1
  | .map entries => uptoBulkEntries entries + 1
  | .held _ => 1
def uptoBulkAll {H : Type} : List (DataW H) → Nat
  | [] => 0
  | d :: r => uptoBulk d + uptoBulkAll r
def uptoBulkEntries {H : Type} : List (Lit × DataW H) → Nat
  | [] => 0
  | x :: r => uptoBulkEntry x + uptoBulkEntries r
def uptoBulkEntry {H : Type} : Lit × DataW H → Nat
  | (.string bytes, d) => bytes.length + uptoBulk d + 1
  | (_, d) => uptoBulk d + 1
 end
def uptoSmall : (H : Type) → List (DataW H) → Bool := fun _ ds => decide (uptoBulkAll ds ≤ 1048576)
def OpenSpec.upto (s : _root_.Go.ChangeSpec) : _root_.Go.OpenSpec := { _root_.Go.OpenSpec.ofChange s with cond := some uptoSmall }

/-- 'lintellaw10.DerParses', WHERE WHAT IT READS IS OF BULK AT MOST 1048576: true; the input reads as it did. -/
def derParsesUptoRow : OpenClaim := { program := "ytadkiildjehdmaa", sum := "8fb4e68fac1ef89b3c649b2740a0c671403b414c9e3c0adc764089b672de1c41", func := "lintel/lintellaw10.DerParses", spec := "derParses", unfollowed := true, recurses := true, apart := false, narrowed := true }
def DerParsesUptoSaid : Prop := derParsesUptoRow.holds Try.pinned (OpenSpec.upto derParsesSpec)

/-- 'lintellaw10.DerWrites', WHERE WHAT IT READS IS OF BULK AT MOST 1048576: true; the input reads as it did. -/
def derWritesUptoRow : OpenClaim := { program := "ytadkiildjehdmaa", sum := "8fb4e68fac1ef89b3c649b2740a0c671403b414c9e3c0adc764089b672de1c41", func := "lintel/lintellaw10.DerWrites", spec := "derWrites", unfollowed := true, recurses := true, apart := false, narrowed := true }
def DerWritesUptoSaid : Prop := derWritesUptoRow.holds Try.pinned (OpenSpec.upto derWritesSpec)

/-- 'lintellaw10.DerDepth', WHERE WHAT IT READS IS OF BULK AT MOST 1048576: true; the input reads as it did. -/
def derDepthUptoRow : OpenClaim := { program := "ytadkiildjehdmaa", sum := "8fb4e68fac1ef89b3c649b2740a0c671403b414c9e3c0adc764089b672de1c41", func := "lintel/lintellaw10.DerDepth", spec := "derDepth", unfollowed := true, recurses := true, apart := false, narrowed := true }
def DerDepthUptoSaid : Prop := derDepthUptoRow.holds Try.pinned (OpenSpec.upto derDepthSpec)

/-- 'lintellaw10.DerLengths', WHERE WHAT IT READS IS OF BULK AT MOST 1048576: true; the input reads as it did. -/
def derLengthsUptoRow : OpenClaim := { program := "ytadkiildjehdmaa", sum := "8fb4e68fac1ef89b3c649b2740a0c671403b414c9e3c0adc764089b672de1c41", func := "lintel/lintellaw10.DerLengths", spec := "derLengths", unfollowed := true, recurses := true, apart := false, narrowed := true }
def DerLengthsUptoSaid : Prop := derLengthsUptoRow.holds Try.pinned (OpenSpec.upto derLengthsSpec)

/-- 'lintellaw10.DerMinimal', WHERE WHAT IT READS IS OF BULK AT MOST 1048576: true; the input reads as it did. -/
def derMinimalUptoRow : OpenClaim := { program := "ytadkiildjehdmaa", sum := "8fb4e68fac1ef89b3c649b2740a0c671403b414c9e3c0adc764089b672de1c41", func := "lintel/lintellaw10.DerMinimal", spec := "derMinimal", unfollowed := true, recurses := true, apart := false, narrowed := true }
def DerMinimalUptoSaid : Prop := derMinimalUptoRow.holds Try.pinned (OpenSpec.upto derMinimalSpec)

/-- 'lintellaw10.DerPrefixes', WHERE WHAT IT READS IS OF BULK AT MOST 1048576: true; the input reads as it did. -/
def derPrefixesUptoRow : OpenClaim := { program := "ytadkiildjehdmaa", sum := "8fb4e68fac1ef89b3c649b2740a0c671403b414c9e3c0adc764089b672de1c41", func := "lintel/lintellaw10.DerPrefixes", spec := "derPrefixes", unfollowed := true, recurses := true, apart := false, narrowed := true }
def DerPrefixesUptoSaid : Prop := derPrefixesUptoRow.holds Try.pinned (OpenSpec.upto derPrefixesSpec)

/-- 'lintellaw10.DerTwo', WHERE WHAT IT READS IS OF BULK AT MOST 1048576: true; the input reads as it did. -/
def derTwoUptoRow : OpenClaim := { program := "ytadkiildjehdmaa", sum := "8fb4e68fac1ef89b3c649b2740a0c671403b414c9e3c0adc764089b672de1c41", func := "lintel/lintellaw10.DerTwo", spec := "derTwo", unfollowed := true, recurses := true, apart := false, narrowed := true }
def DerTwoUptoSaid : Prop := derTwoUptoRow.holds Try.pinned (OpenSpec.upto derTwoSpec)

/-- 'lintellaw10.DerWithin', WHERE WHAT IT READS IS OF BULK AT MOST 1048576: true; the input reads as it did. -/
def derWithinUptoRow : OpenClaim := { program := "ytadkiildjehdmaa", sum := "8fb4e68fac1ef89b3c649b2740a0c671403b414c9e3c0adc764089b672de1c41", func := "lintel/lintellaw10.DerWithin", spec := "derWithin", unfollowed := true, recurses := true, apart := false, narrowed := true }
def DerWithinUptoSaid : Prop := derWithinUptoRow.holds Try.pinned (OpenSpec.upto derWithinSpec)

/-- 'lintellaw10.DerMinus', WHERE WHAT IT READS IS OF BULK AT MOST 1048576: true; the input reads as it did. -/
def derMinusUptoRow : OpenClaim := { program := "ytadkiildjehdmaa", sum := "8fb4e68fac1ef89b3c649b2740a0c671403b414c9e3c0adc764089b672de1c41", func := "lintel/lintellaw10.DerMinus", spec := "derMinus", unfollowed := true, recurses := true, apart := false, narrowed := true }
def DerMinusUptoSaid : Prop := derMinusUptoRow.holds Try.pinned (OpenSpec.upto derMinusSpec)

/-- 'lintellaw10.DerBits', WHERE WHAT IT READS IS OF BULK AT MOST 1048576: true; the input reads as it did. -/
def derBitsUptoRow : OpenClaim := { program := "ytadkiildjehdmaa", sum := "8fb4e68fac1ef89b3c649b2740a0c671403b414c9e3c0adc764089b672de1c41", func := "lintel/lintellaw10.DerBits", spec := "derBits", unfollowed := true, recurses := true, apart := false, narrowed := true }
def DerBitsUptoSaid : Prop := derBitsUptoRow.holds Try.pinned (OpenSpec.upto derBitsSpec)

/-- 'lintellaw10.DerSmall', WHERE WHAT IT READS IS OF BULK AT MOST 1048576: true; the input reads as it did. -/
def derSmallUptoRow : OpenClaim := { program := "ytadkiildjehdmaa", sum := "8fb4e68fac1ef89b3c649b2740a0c671403b414c9e3c0adc764089b672de1c41", func := "lintel/lintellaw10.DerSmall", spec := "derSmall", unfollowed := true, recurses := true, apart := false, narrowed := true }
def DerSmallUptoSaid : Prop := derSmallUptoRow.holds Try.pinned (OpenSpec.upto derSmallSpec)

/-- 'lintellaw10.DerAlls', WHERE WHAT IT READS IS OF BULK AT MOST 1048576: true; the input reads as it did. -/
def derAllsUptoRow : OpenClaim := { program := "ytadkiildjehdmaa", sum := "8fb4e68fac1ef89b3c649b2740a0c671403b414c9e3c0adc764089b672de1c41", func := "lintel/lintellaw10.DerAlls", spec := "derAlls", inPlace := ["internal/bytealg.Compare"], unfollowed := true, recurses := true, apart := false, narrowed := true }
def DerAllsUptoSaid : Prop := derAllsUptoRow.holds Try.pinned (OpenSpec.upto derAllsSpec)

/-- 'lintellaw10.DerSets', WHERE WHAT IT READS IS OF BULK AT MOST 1048576: true; the input reads as it did. -/
def derSetsUptoRow : OpenClaim := { program := "ytadkiildjehdmaa", sum := "8fb4e68fac1ef89b3c649b2740a0c671403b414c9e3c0adc764089b672de1c41", func := "lintel/lintellaw10.DerSets", spec := "derSets", inPlace := ["internal/bytealg.Compare"], unfollowed := true, recurses := true, apart := false, narrowed := true }
def DerSetsUptoSaid : Prop := derSetsUptoRow.holds Try.pinned (OpenSpec.upto derSetsSpec)

/-- 'lintellaw10.DerSorted', WHERE WHAT IT READS IS OF BULK AT MOST 1048576: true; the input reads as it did. -/
def derSortedUptoRow : OpenClaim := { program := "ytadkiildjehdmaa", sum := "8fb4e68fac1ef89b3c649b2740a0c671403b414c9e3c0adc764089b672de1c41", func := "lintel/lintellaw10.DerSorted", spec := "derSorted", inPlace := ["internal/bytealg.Compare"], unfollowed := true, recurses := true, apart := false, narrowed := true }
def DerSortedUptoSaid : Prop := derSortedUptoRow.holds Try.pinned (OpenSpec.upto derSortedSpec)

end Rows
end Go.Proofs.Ytadkiildjehdmaa
