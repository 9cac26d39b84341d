/-
  DERIVED. GIVEN WITH THE SEED: THE CARDS: each row of YtedlpcioegbmfaaDoorRows.lean that lists a variable, with what it lists TIED to the program's text (the seventh form; the later family's looks); each row that meets fmt, with fmt's text TOLD by the authors' own Lean function (tested against real Go, not proved from fmt's source: count such statements apart). THE CARD IS WHAT COUNTS. Prove the row's statement (the work); the ties are given (YtedlpcioegbmfaaDoorTie.lean); close each card by the builder's one call (the guide's Derived/Test/ToyasCard.lean, 'card_holds'). Laid BY PROGRAM, IN A SANDBOX (cutbox-door.mjs). By AI agents, Wed Nov 11 2026. No macro, syntax, notation, axiom, sorry.
-/
import Derived.Test.YtedlpcioegbmfaaDoorRows
import GoSem.ClaimSeven
namespace Go.Proofs.YtedlpcioegbmfaaDoor
namespace Rows

/-- THE TIED CARD OF 'lintellaw17.MeasureBlind'. -/
def measureBlindCard : Claim7 := { stood := { row := measureBlindRow, standIns := [], harness := (true, "890ef0bafe3d193ebfe2ce8b9fdf9d44821d22ba98f0b31f059fce7a79ad8e14"), looks := false }, kinds := [], alts := [], laidByText := true, laidKinds := [.data, .pinned], laidTests := true, laidLooks := .later }
def MeasureBlindCardSaid : Prop := Claim7.holds Tryd.pinned (.plain (OpenSpec.ofChange measureBlindSpec)) measureBlindCard

/-- THE TIED CARD OF 'lintellaw17.MeasureSections'. -/
def measureSectionsCard : Claim7 := { stood := { row := measureSectionsRow, standIns := [], harness := (true, "890ef0bafe3d193ebfe2ce8b9fdf9d44821d22ba98f0b31f059fce7a79ad8e14"), looks := false }, kinds := [], alts := [], laidByText := true, laidKinds := [.data, .pinned], laidTests := true, laidLooks := .later }
def MeasureSectionsCardSaid : Prop := Claim7.holds Tryd.pinned (.plain (OpenSpec.ofChange measureSectionsSpec)) measureSectionsCard

/-- THE TIED CARD OF 'lintellaw17.MeasureAlike'. -/
def measureAlikeCard : Claim7 := { stood := { row := measureAlikeRow, standIns := [], harness := (true, "890ef0bafe3d193ebfe2ce8b9fdf9d44821d22ba98f0b31f059fce7a79ad8e14"), looks := false }, kinds := [], alts := [], laidByText := true, laidKinds := [.data, .pinned], laidTests := true, laidLooks := .later }
def MeasureAlikeCardSaid : Prop := Claim7.holds Tryd.pinned (.plain (OpenSpec.ofChange measureAlikeSpec)) measureAlikeCard

/-- THE TIED CARD OF 'lintellaw17.MeasureRefuses'. -/
def measureRefusesCard : Claim7 := { stood := { row := measureRefusesRow, standIns := [], harness := (true, "890ef0bafe3d193ebfe2ce8b9fdf9d44821d22ba98f0b31f059fce7a79ad8e14"), looks := false }, kinds := [], alts := [], laidByText := true, laidKinds := [.data, .pinned], laidTests := true, laidLooks := .later }
def MeasureRefusesCardSaid : Prop := Claim7.holds Tryd.pinned (.plain (OpenSpec.ofChange measureRefusesSpec)) measureRefusesCard

/-- THE SECOND FORM's CARD OF 'lintellaw17.MeasureBlind'. -/
def measureBlindUptoCard : Claim7 := { stood := { row := measureBlindUptoRow, standIns := [], harness := (true, "890ef0bafe3d193ebfe2ce8b9fdf9d44821d22ba98f0b31f059fce7a79ad8e14"), looks := false }, kinds := [], alts := [], laidByText := true, laidKinds := [.data, .pinned], laidTests := true, laidLooks := .later }
def MeasureBlindUptoCardSaid : Prop := Claim7.holds Tryd.pinned (.plain (OpenSpec.upto measureBlindSpec)) measureBlindUptoCard

/-- THE SECOND FORM's CARD OF 'lintellaw17.MeasureSections'. -/
def measureSectionsUptoCard : Claim7 := { stood := { row := measureSectionsUptoRow, standIns := [], harness := (true, "890ef0bafe3d193ebfe2ce8b9fdf9d44821d22ba98f0b31f059fce7a79ad8e14"), looks := false }, kinds := [], alts := [], laidByText := true, laidKinds := [.data, .pinned], laidTests := true, laidLooks := .later }
def MeasureSectionsUptoCardSaid : Prop := Claim7.holds Tryd.pinned (.plain (OpenSpec.upto measureSectionsSpec)) measureSectionsUptoCard

/-- THE SECOND FORM's CARD OF 'lintellaw17.MeasureAlike'. -/
def measureAlikeUptoCard : Claim7 := { stood := { row := measureAlikeUptoRow, standIns := [], harness := (true, "890ef0bafe3d193ebfe2ce8b9fdf9d44821d22ba98f0b31f059fce7a79ad8e14"), looks := false }, kinds := [], alts := [], laidByText := true, laidKinds := [.data, .pinned], laidTests := true, laidLooks := .later }
def MeasureAlikeUptoCardSaid : Prop := Claim7.holds Tryd.pinned (.plain (OpenSpec.upto measureAlikeSpec)) measureAlikeUptoCard

/-- THE SECOND FORM's CARD OF 'lintellaw17.MeasureRefuses'. -/
def measureRefusesUptoCard : Claim7 := { stood := { row := measureRefusesUptoRow, standIns := [], harness := (true, "890ef0bafe3d193ebfe2ce8b9fdf9d44821d22ba98f0b31f059fce7a79ad8e14"), looks := false }, kinds := [], alts := [], laidByText := true, laidKinds := [.data, .pinned], laidTests := true, laidLooks := .later }
def MeasureRefusesUptoCardSaid : Prop := Claim7.holds Tryd.pinned (.plain (OpenSpec.upto measureRefusesSpec)) measureRefusesUptoCard
end Rows
end Go.Proofs.YtedlpcioegbmfaaDoor
