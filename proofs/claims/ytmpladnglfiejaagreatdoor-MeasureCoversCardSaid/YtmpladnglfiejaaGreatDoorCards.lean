/-
  DERIVED. GIVEN WITH THE SEED: THE CARDS: each row of YtmpladnglfiejaaGreatDoorRows.lean that lists a variable, with what it lists TIED to the program's text (the seventh form; the later family's looks); each row that meets fmt, with fmt's text TOLD by the authors' own Lean function (tested against real Go, not proved from fmt's source: count such statements apart). THE CARD IS WHAT COUNTS. Prove the row's statement (the work); the ties are given (YtmpladnglfiejaaGreatDoorTie.lean); close each card by the builder's one call (the guide's Derived/Test/ToyasCard.lean, 'card_holds'). Laid BY PROGRAM, IN A SANDBOX (cutbox-door.mjs). By AI agents, Wed Nov 11 2026. No macro, syntax, notation, axiom, sorry.
-/
import Derived.Test.YtmpladnglfiejaaGreatDoorRows
import GoSem.ClaimSeven
namespace Go.Proofs.YtmpladnglfiejaaGreatDoor
namespace Rows

/-- THE TIED CARD OF 'lintellaw17.MeasureDigests'. -/
def measureDigestsCard : Claim7 := { stood := { row := measureDigestsRow, standIns := [], harness := (true, "083280a99f67fe7600f28c1bf156b8aa09eb531893da0ffbef4f9ca1601776b9"), looks := false }, kinds := [], alts := [], laidByText := true, laidKinds := [.data, .pinned], laidTests := true, laidLooks := .later }
def MeasureDigestsCardSaid : Prop := Claim7.holds Tryz.pinned (.plain (OpenSpec.ofChange measureDigestsSpec)) measureDigestsCard

/-- THE TIED CARD OF 'lintellaw17.MeasureCovers'. -/
def measureCoversCard : Claim7 := { stood := { row := measureCoversRow, standIns := [], harness := (true, "083280a99f67fe7600f28c1bf156b8aa09eb531893da0ffbef4f9ca1601776b9"), looks := false }, kinds := [], alts := [], laidByText := true, laidKinds := [.data, .pinned], laidTests := true, laidLooks := .later }
def MeasureCoversCardSaid : Prop := Claim7.holds Tryz.pinned (.plain (OpenSpec.ofChange measureCoversSpec)) measureCoversCard

/-- THE SECOND FORM's CARD OF 'lintellaw17.MeasureDigests'. -/
def measureDigestsUptoCard : Claim7 := { stood := { row := measureDigestsUptoRow, standIns := [], harness := (true, "083280a99f67fe7600f28c1bf156b8aa09eb531893da0ffbef4f9ca1601776b9"), looks := false }, kinds := [], alts := [], laidByText := true, laidKinds := [.data, .pinned], laidTests := true, laidLooks := .later }
def MeasureDigestsUptoCardSaid : Prop := Claim7.holds Tryz.pinned (.plain (OpenSpec.upto measureDigestsSpec)) measureDigestsUptoCard

/-- THE SECOND FORM's CARD OF 'lintellaw17.MeasureCovers'. -/
def measureCoversUptoCard : Claim7 := { stood := { row := measureCoversUptoRow, standIns := [], harness := (true, "083280a99f67fe7600f28c1bf156b8aa09eb531893da0ffbef4f9ca1601776b9"), looks := false }, kinds := [], alts := [], laidByText := true, laidKinds := [.data, .pinned], laidTests := true, laidLooks := .later }
def MeasureCoversUptoCardSaid : Prop := Claim7.holds Tryz.pinned (.plain (OpenSpec.upto measureCoversSpec)) measureCoversUptoCard
end Rows
end Go.Proofs.YtmpladnglfiejaaGreatDoor
