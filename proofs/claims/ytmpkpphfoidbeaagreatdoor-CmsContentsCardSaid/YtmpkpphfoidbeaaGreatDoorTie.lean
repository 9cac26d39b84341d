/-
  DERIVED. GIVEN WITH THE SEED: THE PROGRAM's TIES (one call each: nine closed facts by the kernel) AND EACH ROW's TIE, after the 31st guide's Derived/Test/Toyas{Tie, Card}.lean. No idea stands in it: it is a product of the set-up. Laid BY PROGRAM, IN A SANDBOX (cutbox-door.mjs). By AI agents, Wed Nov 11 2026. No macro, syntax, notation, axiom, sorry.
-/
import Derived.Test.YtmpkpphfoidbeaaGreatDoorRows
import Derived.LaidByTextLater
import Derived.SevenTiedAt
import Derived.LaidSub
import Derived.LaidOnce
namespace Go.Proofs.YtmpkpphfoidbeaaGreatDoor
open Go
set_option maxRecDepth 100000
theorem seatTie1 : Tryz.prog.laidByTextLater [("lintel/cms.hashes", Rows.laid_lintel_cms_hashes), ("lintel/cms.ciphers", Rows.laid_lintel_cms_ciphers), ("lintel/cms.wrapped", Rows.laid_lintel_cms_wrapped), ("lintel/cms.kinds", Rows.laid_lintel_cms_kinds), ("lintel/cms.digests", Rows.laid_lintel_cms_digests), ("lintel/cms.peImages", Rows.laid_lintel_cms_peImages)] [.widerDeep, .widerDeep, .widerDeep, .widerDeep, .widerDeep, .widerDeep] true :=
  Program.laidByTextLater_by_one 39 8 11 (by kernel_rfl) (by kernel_rfl) (by kernel_rfl) (by kernel_rfl) (by kernel_rfl) (by kernel_rfl) (fun _ _ => by kernel_rfl)
theorem noOwnUnsafe : Tryz.pinned.checked.prog.headLifts.contains "ownunsafe" = false := by kernel_rfl
theorem tie : Tryz.prog.laidByTextLater [("lintel/cms.hashes", Rows.laid_lintel_cms_hashes), ("lintel/cms.ciphers", Rows.laid_lintel_cms_ciphers), ("lintel/cms.wrapped", Rows.laid_lintel_cms_wrapped), ("lintel/cms.kinds", Rows.laid_lintel_cms_kinds), ("lintel/cms.digests", Rows.laid_lintel_cms_digests), ("lintel/cms.peImages", Rows.laid_lintel_cms_peImages)] [.widerDeep, .widerDeep, .widerDeep, .widerDeep, .widerDeep, .widerDeep] true :=
  Program.laidByTextLater.sub seatTie1 ["lintel/cms.hashes", "lintel/cms.ciphers", "lintel/cms.wrapped", "lintel/cms.kinds", "lintel/cms.digests", "lintel/cms.peImages"] (by kernel_rfl) (by kernel_rfl)
theorem cmsParses_row_tie : Rows.cmsParsesRow.laidByTextAt .later Tryz.pinned [.widerDeep, .widerDeep, .widerDeep, .widerDeep, .widerDeep, .widerDeep] true :=
  OpenClaim.laidByTextAt_later rfl rfl tie noOwnUnsafe
theorem cmsIndirect_row_tie : Rows.cmsIndirectRow.laidByTextAt .later Tryz.pinned [.widerDeep, .widerDeep, .widerDeep, .widerDeep, .widerDeep, .widerDeep] true :=
  OpenClaim.laidByTextAt_later rfl rfl tie noOwnUnsafe
theorem cmsBack_row_tie : Rows.cmsBackRow.laidByTextAt .later Tryz.pinned [.widerDeep, .widerDeep, .widerDeep, .widerDeep, .widerDeep, .widerDeep] true :=
  OpenClaim.laidByTextAt_later rfl rfl tie noOwnUnsafe
theorem cmsDigest_row_tie : Rows.cmsDigestRow.laidByTextAt .later Tryz.pinned [.widerDeep, .widerDeep, .widerDeep, .widerDeep, .widerDeep, .widerDeep] true :=
  OpenClaim.laidByTextAt_later rfl rfl tie noOwnUnsafe
theorem cmsSigners_row_tie : Rows.cmsSignersRow.laidByTextAt .later Tryz.pinned [.widerDeep, .widerDeep, .widerDeep, .widerDeep, .widerDeep, .widerDeep] true :=
  OpenClaim.laidByTextAt_later rfl rfl tie noOwnUnsafe
theorem cmsCerts_row_tie : Rows.cmsCertsRow.laidByTextAt .later Tryz.pinned [.widerDeep, .widerDeep, .widerDeep, .widerDeep, .widerDeep, .widerDeep] true :=
  OpenClaim.laidByTextAt_later rfl rfl tie noOwnUnsafe
theorem cmsOrder_row_tie : Rows.cmsOrderRow.laidByTextAt .later Tryz.pinned [.widerDeep, .widerDeep, .widerDeep, .widerDeep, .widerDeep, .widerDeep] true :=
  OpenClaim.laidByTextAt_later rfl rfl tie noOwnUnsafe
theorem cmsAttributes_row_tie : Rows.cmsAttributesRow.laidByTextAt .later Tryz.pinned [.widerDeep, .widerDeep, .widerDeep, .widerDeep, .widerDeep, .widerDeep] true :=
  OpenClaim.laidByTextAt_later rfl rfl tie noOwnUnsafe
theorem cmsMethods_row_tie : Rows.cmsMethodsRow.laidByTextAt .later Tryz.pinned [.widerDeep, .widerDeep, .widerDeep, .widerDeep, .widerDeep, .widerDeep] true :=
  OpenClaim.laidByTextAt_later rfl rfl tie noOwnUnsafe
theorem cmsVersions_row_tie : Rows.cmsVersionsRow.laidByTextAt .later Tryz.pinned [.widerDeep, .widerDeep, .widerDeep, .widerDeep, .widerDeep, .widerDeep] true :=
  OpenClaim.laidByTextAt_later rfl rfl tie noOwnUnsafe
theorem cmsContents_row_tie : Rows.cmsContentsRow.laidByTextAt .later Tryz.pinned [.widerDeep, .widerDeep, .widerDeep, .widerDeep, .widerDeep, .widerDeep] true :=
  OpenClaim.laidByTextAt_later rfl rfl tie noOwnUnsafe
theorem cmsParsesUpto_row_tie : Rows.cmsParsesUptoRow.laidByTextAt .later Tryz.pinned [.widerDeep, .widerDeep, .widerDeep, .widerDeep, .widerDeep, .widerDeep] true :=
  OpenClaim.laidByTextAt_later rfl rfl tie noOwnUnsafe
theorem cmsIndirectUpto_row_tie : Rows.cmsIndirectUptoRow.laidByTextAt .later Tryz.pinned [.widerDeep, .widerDeep, .widerDeep, .widerDeep, .widerDeep, .widerDeep] true :=
  OpenClaim.laidByTextAt_later rfl rfl tie noOwnUnsafe
theorem cmsBackUpto_row_tie : Rows.cmsBackUptoRow.laidByTextAt .later Tryz.pinned [.widerDeep, .widerDeep, .widerDeep, .widerDeep, .widerDeep, .widerDeep] true :=
  OpenClaim.laidByTextAt_later rfl rfl tie noOwnUnsafe
theorem cmsDigestUpto_row_tie : Rows.cmsDigestUptoRow.laidByTextAt .later Tryz.pinned [.widerDeep, .widerDeep, .widerDeep, .widerDeep, .widerDeep, .widerDeep] true :=
  OpenClaim.laidByTextAt_later rfl rfl tie noOwnUnsafe
theorem cmsSignersUpto_row_tie : Rows.cmsSignersUptoRow.laidByTextAt .later Tryz.pinned [.widerDeep, .widerDeep, .widerDeep, .widerDeep, .widerDeep, .widerDeep] true :=
  OpenClaim.laidByTextAt_later rfl rfl tie noOwnUnsafe
theorem cmsCertsUpto_row_tie : Rows.cmsCertsUptoRow.laidByTextAt .later Tryz.pinned [.widerDeep, .widerDeep, .widerDeep, .widerDeep, .widerDeep, .widerDeep] true :=
  OpenClaim.laidByTextAt_later rfl rfl tie noOwnUnsafe
theorem cmsOrderUpto_row_tie : Rows.cmsOrderUptoRow.laidByTextAt .later Tryz.pinned [.widerDeep, .widerDeep, .widerDeep, .widerDeep, .widerDeep, .widerDeep] true :=
  OpenClaim.laidByTextAt_later rfl rfl tie noOwnUnsafe
theorem cmsAttributesUpto_row_tie : Rows.cmsAttributesUptoRow.laidByTextAt .later Tryz.pinned [.widerDeep, .widerDeep, .widerDeep, .widerDeep, .widerDeep, .widerDeep] true :=
  OpenClaim.laidByTextAt_later rfl rfl tie noOwnUnsafe
theorem cmsMethodsUpto_row_tie : Rows.cmsMethodsUptoRow.laidByTextAt .later Tryz.pinned [.widerDeep, .widerDeep, .widerDeep, .widerDeep, .widerDeep, .widerDeep] true :=
  OpenClaim.laidByTextAt_later rfl rfl tie noOwnUnsafe
theorem cmsVersionsUpto_row_tie : Rows.cmsVersionsUptoRow.laidByTextAt .later Tryz.pinned [.widerDeep, .widerDeep, .widerDeep, .widerDeep, .widerDeep, .widerDeep] true :=
  OpenClaim.laidByTextAt_later rfl rfl tie noOwnUnsafe
theorem cmsContentsUpto_row_tie : Rows.cmsContentsUptoRow.laidByTextAt .later Tryz.pinned [.widerDeep, .widerDeep, .widerDeep, .widerDeep, .widerDeep, .widerDeep] true :=
  OpenClaim.laidByTextAt_later rfl rfl tie noOwnUnsafe
end Go.Proofs.YtmpkpphfoidbeaaGreatDoor
