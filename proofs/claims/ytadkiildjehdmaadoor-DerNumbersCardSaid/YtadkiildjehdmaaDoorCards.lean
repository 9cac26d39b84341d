/-
  DERIVED. GIVEN WITH THE SEED: THE CARDS: each row of YtadkiildjehdmaaDoorRows.lean that lists a variable, with what it lists TIED to the program's text (the seventh form; the later family's looks); each row that meets fmt, with fmt's text TOLD by the authors' own Lean function (tested against real Go, not proved from fmt's source: count such statements apart). THE CARD IS WHAT COUNTS. Prove the row's statement (the work); the ties are given (YtadkiildjehdmaaDoorTie.lean); close each card by the builder's one call (the guide's Derived/Test/ToyasCard.lean, 'card_holds'). Laid BY PROGRAM, IN A SANDBOX (cutbox-door.mjs). By AI agents, Wed Nov 11 2026. No macro, syntax, notation, axiom, sorry.
-/
import Derived.Test.YtadkiildjehdmaaDoorRows
import GoSem.ClaimSeven
namespace Go.Proofs.YtadkiildjehdmaaDoor
namespace Rows

/-- THE TIED CARD OF 'lintellaw10.DerPlain'. -/
def derPlainCard : Claim7 := { stood := { row := derPlainRow, standIns := [], harness := (true, "e795369d098b275660f3a957d3cb72f5d2fee4d72e9913a06f574bfe062ff871"), looks := false }, kinds := [], alts := [], laidByText := true, laidKinds := [.data, .pinned], laidTests := true, laidLooks := .later }
def DerPlainCardSaid : Prop := Claim7.holds Tryd.pinned (.plain (OpenSpec.ofChange derPlainSpec)) derPlainCard

/-- THE TIED CARD OF 'lintellaw10.DerNumbers'. -/
def derNumbersCard : Claim7 := { stood := { row := derNumbersRow, standIns := [], harness := (true, "e795369d098b275660f3a957d3cb72f5d2fee4d72e9913a06f574bfe062ff871"), looks := false }, kinds := [], alts := [], laidByText := true, laidKinds := [.data, .pinned], laidTests := true, laidLooks := .later }
def DerNumbersCardSaid : Prop := Claim7.holds Tryd.pinned (.plain (OpenSpec.ofChange derNumbersSpec)) derNumbersCard

/-- THE TIED CARD OF 'lintellaw10.DerBack'. -/
def derBackCard : Claim7 := { stood := { row := derBackRow, standIns := [], harness := (true, "e795369d098b275660f3a957d3cb72f5d2fee4d72e9913a06f574bfe062ff871"), looks := false }, kinds := [], alts := [], laidByText := true, laidKinds := [.data, .pinned], laidTests := true, laidLooks := .later }
def DerBackCardSaid : Prop := Claim7.holds Tryd.pinned (.plain (OpenSpec.ofChange derBackSpec)) derBackCard

/-- THE SECOND FORM's CARD OF 'lintellaw10.DerPlain'. -/
def derPlainUptoCard : Claim7 := { stood := { row := derPlainUptoRow, standIns := [], harness := (true, "e795369d098b275660f3a957d3cb72f5d2fee4d72e9913a06f574bfe062ff871"), looks := false }, kinds := [], alts := [], laidByText := true, laidKinds := [.data, .pinned], laidTests := true, laidLooks := .later }
def DerPlainUptoCardSaid : Prop := Claim7.holds Tryd.pinned (.plain (OpenSpec.upto derPlainSpec)) derPlainUptoCard

/-- THE SECOND FORM's CARD OF 'lintellaw10.DerNumbers'. -/
def derNumbersUptoCard : Claim7 := { stood := { row := derNumbersUptoRow, standIns := [], harness := (true, "e795369d098b275660f3a957d3cb72f5d2fee4d72e9913a06f574bfe062ff871"), looks := false }, kinds := [], alts := [], laidByText := true, laidKinds := [.data, .pinned], laidTests := true, laidLooks := .later }
def DerNumbersUptoCardSaid : Prop := Claim7.holds Tryd.pinned (.plain (OpenSpec.upto derNumbersSpec)) derNumbersUptoCard

/-- THE SECOND FORM's CARD OF 'lintellaw10.DerBack'. -/
def derBackUptoCard : Claim7 := { stood := { row := derBackUptoRow, standIns := [], harness := (true, "e795369d098b275660f3a957d3cb72f5d2fee4d72e9913a06f574bfe062ff871"), looks := false }, kinds := [], alts := [], laidByText := true, laidKinds := [.data, .pinned], laidTests := true, laidLooks := .later }
def DerBackUptoCardSaid : Prop := Claim7.holds Tryd.pinned (.plain (OpenSpec.upto derBackSpec)) derBackUptoCard
end Rows
end Go.Proofs.YtadkiildjehdmaaDoor
