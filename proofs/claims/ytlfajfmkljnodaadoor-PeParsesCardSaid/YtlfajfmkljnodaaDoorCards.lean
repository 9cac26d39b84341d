/-
  DERIVED. GIVEN WITH THE SEED: THE CARDS: each row of YtlfajfmkljnodaaDoorRows.lean that lists a variable, with what it lists TIED to the program's text (the seventh form; the later family's looks); each row that meets fmt, with fmt's text TOLD by the authors' own Lean function (tested against real Go, not proved from fmt's source: count such statements apart). THE CARD IS WHAT COUNTS. Prove the row's statement (the work); the ties are given (YtlfajfmkljnodaaDoorTie.lean); close each card by the builder's one call (the guide's Derived/Test/ToyasCard.lean, 'card_holds'). Laid BY PROGRAM, IN A SANDBOX (cutbox-door.mjs). By AI agents, Wed Nov 11 2026. No macro, syntax, notation, axiom, sorry.
-/
import Derived.Test.YtlfajfmkljnodaaDoorRows
import GoSem.ClaimSeven
namespace Go.Proofs.YtlfajfmkljnodaaDoor
namespace Rows

/-- THE TIED CARD OF 'lintellaw16.PeParses'. -/
def peParsesCard : Claim7 := { stood := { row := peParsesRow, standIns := [], harness := (true, "b6c8f07d855e2df92b197954ed2f4bd1c84d373f9f109e3b69acabbb1cd5ec46"), looks := false }, kinds := [], alts := [], laidByText := true, laidKinds := [.data, .pinned], laidTests := true, laidLooks := .later }
def PeParsesCardSaid : Prop := Claim7.holds Tryd.pinned (.plain (OpenSpec.ofChange peParsesSpec)) peParsesCard

/-- THE TIED CARD OF 'lintellaw16.PeBack'. -/
def peBackCard : Claim7 := { stood := { row := peBackRow, standIns := [], harness := (true, "b6c8f07d855e2df92b197954ed2f4bd1c84d373f9f109e3b69acabbb1cd5ec46"), looks := false }, kinds := [], alts := [], laidByText := true, laidKinds := [.data, .pinned], laidTests := true, laidLooks := .later }
def PeBackCardSaid : Prop := Claim7.holds Tryd.pinned (.plain (OpenSpec.ofChange peBackSpec)) peBackCard

/-- THE TIED CARD OF 'lintellaw16.PeParts'. -/
def pePartsCard : Claim7 := { stood := { row := pePartsRow, standIns := [], harness := (true, "b6c8f07d855e2df92b197954ed2f4bd1c84d373f9f109e3b69acabbb1cd5ec46"), looks := false }, kinds := [], alts := [], laidByText := true, laidKinds := [.data, .pinned], laidTests := true, laidLooks := .later }
def PePartsCardSaid : Prop := Claim7.holds Tryd.pinned (.plain (OpenSpec.ofChange pePartsSpec)) pePartsCard

/-- THE TIED CARD OF 'lintellaw16.PeSigs'. -/
def peSigsCard : Claim7 := { stood := { row := peSigsRow, standIns := [], harness := (true, "b6c8f07d855e2df92b197954ed2f4bd1c84d373f9f109e3b69acabbb1cd5ec46"), looks := false }, kinds := [], alts := [], laidByText := true, laidKinds := [.data, .pinned], laidTests := true, laidLooks := .later }
def PeSigsCardSaid : Prop := Claim7.holds Tryd.pinned (.plain (OpenSpec.ofChange peSigsSpec)) peSigsCard

/-- THE TIED CARD OF 'lintellaw16.PeGaps'. -/
def peGapsCard : Claim7 := { stood := { row := peGapsRow, standIns := [], harness := (true, "b6c8f07d855e2df92b197954ed2f4bd1c84d373f9f109e3b69acabbb1cd5ec46"), looks := false }, kinds := [], alts := [], laidByText := true, laidKinds := [.data, .pinned], laidTests := true, laidLooks := .later }
def PeGapsCardSaid : Prop := Claim7.holds Tryd.pinned (.plain (OpenSpec.ofChange peGapsSpec)) peGapsCard

/-- THE TIED CARD OF 'lintellaw16.PeChecks'. -/
def peChecksCard : Claim7 := { stood := { row := peChecksRow, standIns := [], harness := (true, "b6c8f07d855e2df92b197954ed2f4bd1c84d373f9f109e3b69acabbb1cd5ec46"), looks := false }, kinds := [], alts := [], laidByText := true, laidKinds := [.data, .pinned], laidTests := true, laidLooks := .later }
def PeChecksCardSaid : Prop := Claim7.holds Tryd.pinned (.plain (OpenSpec.ofChange peChecksSpec)) peChecksCard

/-- THE TIED CARD OF 'lintellaw16.PeTables'. -/
def peTablesCard : Claim7 := { stood := { row := peTablesRow, standIns := [], harness := (true, "b6c8f07d855e2df92b197954ed2f4bd1c84d373f9f109e3b69acabbb1cd5ec46"), looks := false }, kinds := [], alts := [], laidByText := true, laidKinds := [.data, .pinned], laidTests := true, laidLooks := .later }
def PeTablesCardSaid : Prop := Claim7.holds Tryd.pinned (.plain (OpenSpec.ofChange peTablesSpec)) peTablesCard

/-- THE TIED CARD OF 'lintellaw16.PeFills'. -/
def peFillsCard : Claim7 := { stood := { row := peFillsRow, standIns := [], harness := (true, "b6c8f07d855e2df92b197954ed2f4bd1c84d373f9f109e3b69acabbb1cd5ec46"), looks := false }, kinds := [], alts := [], laidByText := true, laidKinds := [.data, .pinned], laidTests := true, laidLooks := .later }
def PeFillsCardSaid : Prop := Claim7.holds Tryd.pinned (.plain (OpenSpec.ofChange peFillsSpec)) peFillsCard

/-- THE TIED CARD OF 'lintellaw16.PeCounts'. -/
def peCountsCard : Claim7 := { stood := { row := peCountsRow, standIns := [], harness := (true, "b6c8f07d855e2df92b197954ed2f4bd1c84d373f9f109e3b69acabbb1cd5ec46"), looks := false }, kinds := [], alts := [], laidByText := true, laidKinds := [.data, .pinned], laidTests := true, laidLooks := .later }
def PeCountsCardSaid : Prop := Claim7.holds Tryd.pinned (.plain (OpenSpec.ofChange peCountsSpec)) peCountsCard

/-- THE SECOND FORM's CARD OF 'lintellaw16.PeParses'. -/
def peParsesUptoCard : Claim7 := { stood := { row := peParsesUptoRow, standIns := [], harness := (true, "b6c8f07d855e2df92b197954ed2f4bd1c84d373f9f109e3b69acabbb1cd5ec46"), looks := false }, kinds := [], alts := [], laidByText := true, laidKinds := [.data, .pinned], laidTests := true, laidLooks := .later }
def PeParsesUptoCardSaid : Prop := Claim7.holds Tryd.pinned (.plain (OpenSpec.upto peParsesSpec)) peParsesUptoCard

/-- THE SECOND FORM's CARD OF 'lintellaw16.PeBack'. -/
def peBackUptoCard : Claim7 := { stood := { row := peBackUptoRow, standIns := [], harness := (true, "b6c8f07d855e2df92b197954ed2f4bd1c84d373f9f109e3b69acabbb1cd5ec46"), looks := false }, kinds := [], alts := [], laidByText := true, laidKinds := [.data, .pinned], laidTests := true, laidLooks := .later }
def PeBackUptoCardSaid : Prop := Claim7.holds Tryd.pinned (.plain (OpenSpec.upto peBackSpec)) peBackUptoCard

/-- THE SECOND FORM's CARD OF 'lintellaw16.PeParts'. -/
def pePartsUptoCard : Claim7 := { stood := { row := pePartsUptoRow, standIns := [], harness := (true, "b6c8f07d855e2df92b197954ed2f4bd1c84d373f9f109e3b69acabbb1cd5ec46"), looks := false }, kinds := [], alts := [], laidByText := true, laidKinds := [.data, .pinned], laidTests := true, laidLooks := .later }
def PePartsUptoCardSaid : Prop := Claim7.holds Tryd.pinned (.plain (OpenSpec.upto pePartsSpec)) pePartsUptoCard

/-- THE SECOND FORM's CARD OF 'lintellaw16.PeSigs'. -/
def peSigsUptoCard : Claim7 := { stood := { row := peSigsUptoRow, standIns := [], harness := (true, "b6c8f07d855e2df92b197954ed2f4bd1c84d373f9f109e3b69acabbb1cd5ec46"), looks := false }, kinds := [], alts := [], laidByText := true, laidKinds := [.data, .pinned], laidTests := true, laidLooks := .later }
def PeSigsUptoCardSaid : Prop := Claim7.holds Tryd.pinned (.plain (OpenSpec.upto peSigsSpec)) peSigsUptoCard

/-- THE SECOND FORM's CARD OF 'lintellaw16.PeGaps'. -/
def peGapsUptoCard : Claim7 := { stood := { row := peGapsUptoRow, standIns := [], harness := (true, "b6c8f07d855e2df92b197954ed2f4bd1c84d373f9f109e3b69acabbb1cd5ec46"), looks := false }, kinds := [], alts := [], laidByText := true, laidKinds := [.data, .pinned], laidTests := true, laidLooks := .later }
def PeGapsUptoCardSaid : Prop := Claim7.holds Tryd.pinned (.plain (OpenSpec.upto peGapsSpec)) peGapsUptoCard

/-- THE SECOND FORM's CARD OF 'lintellaw16.PeChecks'. -/
def peChecksUptoCard : Claim7 := { stood := { row := peChecksUptoRow, standIns := [], harness := (true, "b6c8f07d855e2df92b197954ed2f4bd1c84d373f9f109e3b69acabbb1cd5ec46"), looks := false }, kinds := [], alts := [], laidByText := true, laidKinds := [.data, .pinned], laidTests := true, laidLooks := .later }
def PeChecksUptoCardSaid : Prop := Claim7.holds Tryd.pinned (.plain (OpenSpec.upto peChecksSpec)) peChecksUptoCard

/-- THE SECOND FORM's CARD OF 'lintellaw16.PeTables'. -/
def peTablesUptoCard : Claim7 := { stood := { row := peTablesUptoRow, standIns := [], harness := (true, "b6c8f07d855e2df92b197954ed2f4bd1c84d373f9f109e3b69acabbb1cd5ec46"), looks := false }, kinds := [], alts := [], laidByText := true, laidKinds := [.data, .pinned], laidTests := true, laidLooks := .later }
def PeTablesUptoCardSaid : Prop := Claim7.holds Tryd.pinned (.plain (OpenSpec.upto peTablesSpec)) peTablesUptoCard

/-- THE SECOND FORM's CARD OF 'lintellaw16.PeFills'. -/
def peFillsUptoCard : Claim7 := { stood := { row := peFillsUptoRow, standIns := [], harness := (true, "b6c8f07d855e2df92b197954ed2f4bd1c84d373f9f109e3b69acabbb1cd5ec46"), looks := false }, kinds := [], alts := [], laidByText := true, laidKinds := [.data, .pinned], laidTests := true, laidLooks := .later }
def PeFillsUptoCardSaid : Prop := Claim7.holds Tryd.pinned (.plain (OpenSpec.upto peFillsSpec)) peFillsUptoCard

/-- THE SECOND FORM's CARD OF 'lintellaw16.PeCounts'. -/
def peCountsUptoCard : Claim7 := { stood := { row := peCountsUptoRow, standIns := [], harness := (true, "b6c8f07d855e2df92b197954ed2f4bd1c84d373f9f109e3b69acabbb1cd5ec46"), looks := false }, kinds := [], alts := [], laidByText := true, laidKinds := [.data, .pinned], laidTests := true, laidLooks := .later }
def PeCountsUptoCardSaid : Prop := Claim7.holds Tryd.pinned (.plain (OpenSpec.upto peCountsSpec)) peCountsUptoCard
end Rows
end Go.Proofs.YtlfajfmkljnodaaDoor
