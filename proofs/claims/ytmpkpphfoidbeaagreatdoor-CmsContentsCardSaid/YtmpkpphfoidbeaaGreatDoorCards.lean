/-
  DERIVED. GIVEN WITH THE SEED: THE CARDS: each row of YtmpkpphfoidbeaaGreatDoorRows.lean that lists a variable, with what it lists TIED to the program's text (the seventh form; the later family's looks); each row that meets fmt, with fmt's text TOLD by the authors' own Lean function (tested against real Go, not proved from fmt's source: count such statements apart). THE CARD IS WHAT COUNTS. Prove the row's statement (the work); the ties are given (YtmpkpphfoidbeaaGreatDoorTie.lean); close each card by the builder's one call (the guide's Derived/Test/ToyasCard.lean, 'card_holds'). Laid BY PROGRAM, IN A SANDBOX (cutbox-door.mjs). By AI agents, Wed Nov 11 2026. No macro, syntax, notation, axiom, sorry.
-/
import Derived.Test.YtmpkpphfoidbeaaGreatDoorRows
import GoSem.ClaimSeven
namespace Go.Proofs.YtmpkpphfoidbeaaGreatDoor
namespace Rows

/-- THE TIED CARD OF 'lintellaw14.CmsParses'. -/
def cmsParsesCard : Claim7 := { stood := { row := cmsParsesRow, standIns := [], harness := (true, "ae86fddfcbd25662a200333a9166fe72ce0e7064ec9e5a683c11fb9d03946687"), looks := true }, kinds := [], alts := [], laidByText := true, laidKinds := [.widerDeep, .widerDeep, .widerDeep, .widerDeep, .widerDeep, .widerDeep], laidTests := true, laidLooks := .later }
def CmsParsesCardSaid : Prop := Claim7.holds Tryz.pinned (.plain (OpenSpec.ofChange cmsParsesSpec)) cmsParsesCard

/-- THE TIED CARD OF 'lintellaw14.CmsIndirect'. -/
def cmsIndirectCard : Claim7 := { stood := { row := cmsIndirectRow, standIns := [], harness := (true, "ae86fddfcbd25662a200333a9166fe72ce0e7064ec9e5a683c11fb9d03946687"), looks := true }, kinds := [], alts := [], laidByText := true, laidKinds := [.widerDeep, .widerDeep, .widerDeep, .widerDeep, .widerDeep, .widerDeep], laidTests := true, laidLooks := .later }
def CmsIndirectCardSaid : Prop := Claim7.holds Tryz.pinned (.plain (OpenSpec.ofChange cmsIndirectSpec)) cmsIndirectCard

/-- THE TIED CARD OF 'lintellaw14.CmsBack'. -/
def cmsBackCard : Claim7 := { stood := { row := cmsBackRow, standIns := [], harness := (true, "ae86fddfcbd25662a200333a9166fe72ce0e7064ec9e5a683c11fb9d03946687"), looks := true }, kinds := [], alts := [], laidByText := true, laidKinds := [.widerDeep, .widerDeep, .widerDeep, .widerDeep, .widerDeep, .widerDeep], laidTests := true, laidLooks := .later }
def CmsBackCardSaid : Prop := Claim7.holds Tryz.pinned (.plain (OpenSpec.ofChange cmsBackSpec)) cmsBackCard

/-- THE TIED CARD OF 'lintellaw14.CmsDigest'. -/
def cmsDigestCard : Claim7 := { stood := { row := cmsDigestRow, standIns := [], harness := (true, "ae86fddfcbd25662a200333a9166fe72ce0e7064ec9e5a683c11fb9d03946687"), looks := true }, kinds := [], alts := [], laidByText := true, laidKinds := [.widerDeep, .widerDeep, .widerDeep, .widerDeep, .widerDeep, .widerDeep], laidTests := true, laidLooks := .later }
def CmsDigestCardSaid : Prop := Claim7.holds Tryz.pinned (.plain (OpenSpec.ofChange cmsDigestSpec)) cmsDigestCard

/-- THE TIED CARD OF 'lintellaw14.CmsSigners'. -/
def cmsSignersCard : Claim7 := { stood := { row := cmsSignersRow, standIns := [], harness := (true, "ae86fddfcbd25662a200333a9166fe72ce0e7064ec9e5a683c11fb9d03946687"), looks := true }, kinds := [], alts := [], laidByText := true, laidKinds := [.widerDeep, .widerDeep, .widerDeep, .widerDeep, .widerDeep, .widerDeep], laidTests := true, laidLooks := .later }
def CmsSignersCardSaid : Prop := Claim7.holds Tryz.pinned (.plain (OpenSpec.ofChange cmsSignersSpec)) cmsSignersCard

/-- THE TIED CARD OF 'lintellaw14.CmsCerts'. -/
def cmsCertsCard : Claim7 := { stood := { row := cmsCertsRow, standIns := [], harness := (true, "ae86fddfcbd25662a200333a9166fe72ce0e7064ec9e5a683c11fb9d03946687"), looks := true }, kinds := [], alts := [], laidByText := true, laidKinds := [.widerDeep, .widerDeep, .widerDeep, .widerDeep, .widerDeep, .widerDeep], laidTests := true, laidLooks := .later }
def CmsCertsCardSaid : Prop := Claim7.holds Tryz.pinned (.plain (OpenSpec.ofChange cmsCertsSpec)) cmsCertsCard

/-- THE TIED CARD OF 'lintellaw14.CmsOrder'. -/
def cmsOrderCard : Claim7 := { stood := { row := cmsOrderRow, standIns := [], harness := (true, "ae86fddfcbd25662a200333a9166fe72ce0e7064ec9e5a683c11fb9d03946687"), looks := true }, kinds := [], alts := [], laidByText := true, laidKinds := [.widerDeep, .widerDeep, .widerDeep, .widerDeep, .widerDeep, .widerDeep], laidTests := true, laidLooks := .later }
def CmsOrderCardSaid : Prop := Claim7.holds Tryz.pinned (.plain (OpenSpec.ofChange cmsOrderSpec)) cmsOrderCard

/-- THE TIED CARD OF 'lintellaw14.CmsAttributes'. -/
def cmsAttributesCard : Claim7 := { stood := { row := cmsAttributesRow, standIns := [], harness := (true, "ae86fddfcbd25662a200333a9166fe72ce0e7064ec9e5a683c11fb9d03946687"), looks := true }, kinds := [], alts := [], laidByText := true, laidKinds := [.widerDeep, .widerDeep, .widerDeep, .widerDeep, .widerDeep, .widerDeep], laidTests := true, laidLooks := .later }
def CmsAttributesCardSaid : Prop := Claim7.holds Tryz.pinned (.plain (OpenSpec.ofChange cmsAttributesSpec)) cmsAttributesCard

/-- THE TIED CARD OF 'lintellaw14.CmsMethods'. -/
def cmsMethodsCard : Claim7 := { stood := { row := cmsMethodsRow, standIns := [], harness := (true, "ae86fddfcbd25662a200333a9166fe72ce0e7064ec9e5a683c11fb9d03946687"), looks := true }, kinds := [], alts := [], laidByText := true, laidKinds := [.widerDeep, .widerDeep, .widerDeep, .widerDeep, .widerDeep, .widerDeep], laidTests := true, laidLooks := .later }
def CmsMethodsCardSaid : Prop := Claim7.holds Tryz.pinned (.plain (OpenSpec.ofChange cmsMethodsSpec)) cmsMethodsCard

/-- THE TIED CARD OF 'lintellaw14.CmsVersions'. -/
def cmsVersionsCard : Claim7 := { stood := { row := cmsVersionsRow, standIns := [], harness := (true, "ae86fddfcbd25662a200333a9166fe72ce0e7064ec9e5a683c11fb9d03946687"), looks := true }, kinds := [], alts := [], laidByText := true, laidKinds := [.widerDeep, .widerDeep, .widerDeep, .widerDeep, .widerDeep, .widerDeep], laidTests := true, laidLooks := .later }
def CmsVersionsCardSaid : Prop := Claim7.holds Tryz.pinned (.plain (OpenSpec.ofChange cmsVersionsSpec)) cmsVersionsCard

/-- THE TIED CARD OF 'lintellaw14.CmsContents'. -/
def cmsContentsCard : Claim7 := { stood := { row := cmsContentsRow, standIns := [], harness := (true, "ae86fddfcbd25662a200333a9166fe72ce0e7064ec9e5a683c11fb9d03946687"), looks := true }, kinds := [], alts := [], laidByText := true, laidKinds := [.widerDeep, .widerDeep, .widerDeep, .widerDeep, .widerDeep, .widerDeep], laidTests := true, laidLooks := .later }
def CmsContentsCardSaid : Prop := Claim7.holds Tryz.pinned (.plain (OpenSpec.ofChange cmsContentsSpec)) cmsContentsCard

/-- THE SECOND FORM's CARD OF 'lintellaw14.CmsParses'. -/
def cmsParsesUptoCard : Claim7 := { stood := { row := cmsParsesUptoRow, standIns := [], harness := (true, "ae86fddfcbd25662a200333a9166fe72ce0e7064ec9e5a683c11fb9d03946687"), looks := true }, kinds := [], alts := [], laidByText := true, laidKinds := [.widerDeep, .widerDeep, .widerDeep, .widerDeep, .widerDeep, .widerDeep], laidTests := true, laidLooks := .later }
def CmsParsesUptoCardSaid : Prop := Claim7.holds Tryz.pinned (.plain (OpenSpec.upto cmsParsesSpec)) cmsParsesUptoCard

/-- THE SECOND FORM's CARD OF 'lintellaw14.CmsIndirect'. -/
def cmsIndirectUptoCard : Claim7 := { stood := { row := cmsIndirectUptoRow, standIns := [], harness := (true, "ae86fddfcbd25662a200333a9166fe72ce0e7064ec9e5a683c11fb9d03946687"), looks := true }, kinds := [], alts := [], laidByText := true, laidKinds := [.widerDeep, .widerDeep, .widerDeep, .widerDeep, .widerDeep, .widerDeep], laidTests := true, laidLooks := .later }
def CmsIndirectUptoCardSaid : Prop := Claim7.holds Tryz.pinned (.plain (OpenSpec.upto cmsIndirectSpec)) cmsIndirectUptoCard

/-- THE SECOND FORM's CARD OF 'lintellaw14.CmsBack'. -/
def cmsBackUptoCard : Claim7 := { stood := { row := cmsBackUptoRow, standIns := [], harness := (true, "ae86fddfcbd25662a200333a9166fe72ce0e7064ec9e5a683c11fb9d03946687"), looks := true }, kinds := [], alts := [], laidByText := true, laidKinds := [.widerDeep, .widerDeep, .widerDeep, .widerDeep, .widerDeep, .widerDeep], laidTests := true, laidLooks := .later }
def CmsBackUptoCardSaid : Prop := Claim7.holds Tryz.pinned (.plain (OpenSpec.upto cmsBackSpec)) cmsBackUptoCard

/-- THE SECOND FORM's CARD OF 'lintellaw14.CmsDigest'. -/
def cmsDigestUptoCard : Claim7 := { stood := { row := cmsDigestUptoRow, standIns := [], harness := (true, "ae86fddfcbd25662a200333a9166fe72ce0e7064ec9e5a683c11fb9d03946687"), looks := true }, kinds := [], alts := [], laidByText := true, laidKinds := [.widerDeep, .widerDeep, .widerDeep, .widerDeep, .widerDeep, .widerDeep], laidTests := true, laidLooks := .later }
def CmsDigestUptoCardSaid : Prop := Claim7.holds Tryz.pinned (.plain (OpenSpec.upto cmsDigestSpec)) cmsDigestUptoCard

/-- THE SECOND FORM's CARD OF 'lintellaw14.CmsSigners'. -/
def cmsSignersUptoCard : Claim7 := { stood := { row := cmsSignersUptoRow, standIns := [], harness := (true, "ae86fddfcbd25662a200333a9166fe72ce0e7064ec9e5a683c11fb9d03946687"), looks := true }, kinds := [], alts := [], laidByText := true, laidKinds := [.widerDeep, .widerDeep, .widerDeep, .widerDeep, .widerDeep, .widerDeep], laidTests := true, laidLooks := .later }
def CmsSignersUptoCardSaid : Prop := Claim7.holds Tryz.pinned (.plain (OpenSpec.upto cmsSignersSpec)) cmsSignersUptoCard

/-- THE SECOND FORM's CARD OF 'lintellaw14.CmsCerts'. -/
def cmsCertsUptoCard : Claim7 := { stood := { row := cmsCertsUptoRow, standIns := [], harness := (true, "ae86fddfcbd25662a200333a9166fe72ce0e7064ec9e5a683c11fb9d03946687"), looks := true }, kinds := [], alts := [], laidByText := true, laidKinds := [.widerDeep, .widerDeep, .widerDeep, .widerDeep, .widerDeep, .widerDeep], laidTests := true, laidLooks := .later }
def CmsCertsUptoCardSaid : Prop := Claim7.holds Tryz.pinned (.plain (OpenSpec.upto cmsCertsSpec)) cmsCertsUptoCard

/-- THE SECOND FORM's CARD OF 'lintellaw14.CmsOrder'. -/
def cmsOrderUptoCard : Claim7 := { stood := { row := cmsOrderUptoRow, standIns := [], harness := (true, "ae86fddfcbd25662a200333a9166fe72ce0e7064ec9e5a683c11fb9d03946687"), looks := true }, kinds := [], alts := [], laidByText := true, laidKinds := [.widerDeep, .widerDeep, .widerDeep, .widerDeep, .widerDeep, .widerDeep], laidTests := true, laidLooks := .later }
def CmsOrderUptoCardSaid : Prop := Claim7.holds Tryz.pinned (.plain (OpenSpec.upto cmsOrderSpec)) cmsOrderUptoCard

/-- THE SECOND FORM's CARD OF 'lintellaw14.CmsAttributes'. -/
def cmsAttributesUptoCard : Claim7 := { stood := { row := cmsAttributesUptoRow, standIns := [], harness := (true, "ae86fddfcbd25662a200333a9166fe72ce0e7064ec9e5a683c11fb9d03946687"), looks := true }, kinds := [], alts := [], laidByText := true, laidKinds := [.widerDeep, .widerDeep, .widerDeep, .widerDeep, .widerDeep, .widerDeep], laidTests := true, laidLooks := .later }
def CmsAttributesUptoCardSaid : Prop := Claim7.holds Tryz.pinned (.plain (OpenSpec.upto cmsAttributesSpec)) cmsAttributesUptoCard

/-- THE SECOND FORM's CARD OF 'lintellaw14.CmsMethods'. -/
def cmsMethodsUptoCard : Claim7 := { stood := { row := cmsMethodsUptoRow, standIns := [], harness := (true, "ae86fddfcbd25662a200333a9166fe72ce0e7064ec9e5a683c11fb9d03946687"), looks := true }, kinds := [], alts := [], laidByText := true, laidKinds := [.widerDeep, .widerDeep, .widerDeep, .widerDeep, .widerDeep, .widerDeep], laidTests := true, laidLooks := .later }
def CmsMethodsUptoCardSaid : Prop := Claim7.holds Tryz.pinned (.plain (OpenSpec.upto cmsMethodsSpec)) cmsMethodsUptoCard

/-- THE SECOND FORM's CARD OF 'lintellaw14.CmsVersions'. -/
def cmsVersionsUptoCard : Claim7 := { stood := { row := cmsVersionsUptoRow, standIns := [], harness := (true, "ae86fddfcbd25662a200333a9166fe72ce0e7064ec9e5a683c11fb9d03946687"), looks := true }, kinds := [], alts := [], laidByText := true, laidKinds := [.widerDeep, .widerDeep, .widerDeep, .widerDeep, .widerDeep, .widerDeep], laidTests := true, laidLooks := .later }
def CmsVersionsUptoCardSaid : Prop := Claim7.holds Tryz.pinned (.plain (OpenSpec.upto cmsVersionsSpec)) cmsVersionsUptoCard

/-- THE SECOND FORM's CARD OF 'lintellaw14.CmsContents'. -/
def cmsContentsUptoCard : Claim7 := { stood := { row := cmsContentsUptoRow, standIns := [], harness := (true, "ae86fddfcbd25662a200333a9166fe72ce0e7064ec9e5a683c11fb9d03946687"), looks := true }, kinds := [], alts := [], laidByText := true, laidKinds := [.widerDeep, .widerDeep, .widerDeep, .widerDeep, .widerDeep, .widerDeep], laidTests := true, laidLooks := .later }
def CmsContentsUptoCardSaid : Prop := Claim7.holds Tryz.pinned (.plain (OpenSpec.upto cmsContentsSpec)) cmsContentsUptoCard
end Rows
end Go.Proofs.YtmpkpphfoidbeaaGreatDoor
