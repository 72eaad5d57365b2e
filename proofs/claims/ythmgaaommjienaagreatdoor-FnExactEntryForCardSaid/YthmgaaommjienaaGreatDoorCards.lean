/-
  DERIVED. GIVEN WITH THE SEED: THE CARDS: each row of YthmgaaommjienaaGreatDoorRows.lean that lists a variable, with what it lists TIED to the program's text (the seventh form; the later family's looks); each row that meets fmt, with fmt's text TOLD by the authors' own Lean function (tested against real Go, not proved from fmt's source: count such statements apart). THE CARD IS WHAT COUNTS. Prove the row's statement (the work); the ties are given (YthmgaaommjienaaGreatDoorTie.lean); close each card by the builder's one call (the guide's Derived/Test/ToyasCard.lean, 'card_holds'). Laid BY PROGRAM, IN A SANDBOX (cutbox-door.mjs). By AI agents, Wed Nov 11 2026. No macro, syntax, notation, axiom, sorry.
-/
import Derived.Test.YthmgaaommjienaaGreatDoorRows
import GoSem.ClaimSeven
namespace Go.Proofs.YthmgaaommjienaaGreatDoor
namespace Rows

/-- THE TIED CARD OF 'laws.FnExactPatternOf'. -/
def fnExactPatternOfCard : Claim7 := { stood := { row := fnExactPatternOfRow, standIns := [], harness := (true, "059d9ade3de631e4f8d264696f12e9cbfefd5e901851c41965b1b194c3c02d51"), looks := true }, kinds := [], alts := [], laidByText := true, laidKinds := [.data, .data, .data], laidTests := true, laidLooks := .later }
def FnExactPatternOfCardSaid : Prop := Claim7.holds Tryz.pinned (.plain (OpenSpec.ofChange fnExactPatternOfSpec)) fnExactPatternOfCard

/-- THE TIED CARD OF 'laws.FnExactIsMinimalPair'. -/
def fnExactIsMinimalPairCard : Claim7 := { stood := { row := fnExactIsMinimalPairRow, standIns := [], harness := (true, "059d9ade3de631e4f8d264696f12e9cbfefd5e901851c41965b1b194c3c02d51"), looks := true }, kinds := [], alts := [], laidByText := true, laidKinds := [.data, .data, .data], laidTests := true, laidLooks := .later }
def FnExactIsMinimalPairCardSaid : Prop := Claim7.holds Tryz.pinned (.plain (OpenSpec.ofChange fnExactIsMinimalPairSpec)) fnExactIsMinimalPairCard

/-- THE TIED CARD OF 'laws.FnExactSignsText'. -/
def fnExactSignsTextCard : Claim7 := { stood := { row := fnExactSignsTextRow, standIns := [], harness := (true, "059d9ade3de631e4f8d264696f12e9cbfefd5e901851c41965b1b194c3c02d51"), looks := true }, kinds := [], alts := [], laidByText := true, laidKinds := [.data, .data, .data], laidTests := true, laidLooks := .later }
def FnExactSignsTextCardSaid : Prop := Claim7.holds Tryz.pinned (.plain (OpenSpec.ofChange fnExactSignsTextSpec)) fnExactSignsTextCard

/-- THE TIED CARD OF 'laws.FnExactCompareSigns'. -/
def fnExactCompareSignsCard : Claim7 := { stood := { row := fnExactCompareSignsRow, standIns := [], harness := (true, "059d9ade3de631e4f8d264696f12e9cbfefd5e901851c41965b1b194c3c02d51"), looks := true }, kinds := [], alts := [], laidByText := true, laidKinds := [.data, .data, .data], laidTests := true, laidLooks := .later }
def FnExactCompareSignsCardSaid : Prop := Claim7.holds Tryz.pinned (.plain (OpenSpec.ofChange fnExactCompareSignsSpec)) fnExactCompareSignsCard

/-- THE TIED CARD OF 'laws.FnExactCompoundText'. -/
def fnExactCompoundTextCard : Claim7 := { stood := { row := fnExactCompoundTextRow, standIns := [], harness := (true, "059d9ade3de631e4f8d264696f12e9cbfefd5e901851c41965b1b194c3c02d51"), looks := true }, kinds := [], alts := [], laidByText := true, laidKinds := [.data, .data, .data], laidTests := true, laidLooks := .later }
def FnExactCompoundTextCardSaid : Prop := Claim7.holds Tryz.pinned (.plain (OpenSpec.ofChange fnExactCompoundTextSpec)) fnExactCompoundTextCard

/-- THE TIED CARD OF 'laws.FnExactEntryFor'. -/
def fnExactEntryForCard : Claim7 := { stood := { row := fnExactEntryForRow, standIns := [], harness := (true, "059d9ade3de631e4f8d264696f12e9cbfefd5e901851c41965b1b194c3c02d51"), looks := true }, kinds := [], alts := [], laidByText := true, laidKinds := [.data, .data, .data], laidTests := true, laidLooks := .later }
def FnExactEntryForCardSaid : Prop := Claim7.holds Tryz.pinned (.plain (OpenSpec.ofChange fnExactEntryForSpec)) fnExactEntryForCard

/-- THE TIED CARD OF 'laws.FnExactSortSigns'. -/
def fnExactSortSignsCard : Claim7 := { stood := { row := fnExactSortSignsRow, standIns := [], harness := (true, "059d9ade3de631e4f8d264696f12e9cbfefd5e901851c41965b1b194c3c02d51"), looks := true }, kinds := [], alts := [], laidByText := true, laidKinds := [.data, .data, .data], laidTests := true, laidLooks := .later }
def FnExactSortSignsCardSaid : Prop := Claim7.holds Tryz.pinned (.plain (OpenSpec.ofChange fnExactSortSignsSpec)) fnExactSortSignsCard

/-- THE TIED CARD OF 'laws.FnExactPartsApart'. -/
def fnExactPartsApartCard : Claim7 := { stood := { row := fnExactPartsApartRow, standIns := [], harness := (true, "059d9ade3de631e4f8d264696f12e9cbfefd5e901851c41965b1b194c3c02d51"), looks := true }, kinds := [], alts := [], laidByText := true, laidKinds := [.data, .data, .data], laidTests := true, laidLooks := .later }
def FnExactPartsApartCardSaid : Prop := Claim7.holds Tryz.pinned (.plain (OpenSpec.ofChange fnExactPartsApartSpec)) fnExactPartsApartCard

/-- THE TIED CARD OF 'laws.FnExactUsesOf'. -/
def fnExactUsesOfCard : Claim7 := { stood := { row := fnExactUsesOfRow, standIns := [], harness := (true, "059d9ade3de631e4f8d264696f12e9cbfefd5e901851c41965b1b194c3c02d51"), looks := true }, kinds := [], alts := [], laidByText := true, laidKinds := [.data, .data, .data], laidTests := true, laidLooks := .later }
def FnExactUsesOfCardSaid : Prop := Claim7.holds Tryz.pinned (.plain (OpenSpec.ofChange fnExactUsesOfSpec)) fnExactUsesOfCard

/-- THE TIED CARD OF 'laws.FnExactNormalSign'. -/
def fnExactNormalSignCard : Claim7 := { stood := { row := fnExactNormalSignRow, standIns := [], harness := (true, "059d9ade3de631e4f8d264696f12e9cbfefd5e901851c41965b1b194c3c02d51"), looks := true }, kinds := [], alts := [], laidByText := true, laidKinds := [.data, .data, .data], laidTests := true, laidLooks := .later }
def FnExactNormalSignCardSaid : Prop := Claim7.holds Tryz.pinned (.plain (OpenSpec.ofChange fnExactNormalSignSpec)) fnExactNormalSignCard

/-- THE TIED CARD OF 'laws.FnSigns'. -/
def fnSignsCard : Claim7 := { stood := { row := fnSignsRow, standIns := [], harness := (true, "059d9ade3de631e4f8d264696f12e9cbfefd5e901851c41965b1b194c3c02d51"), looks := true }, kinds := [], alts := [], laidByText := true, laidKinds := [.data, .data, .data], laidTests := true, laidLooks := .later }
def FnSignsCardSaid : Prop := Claim7.holds Tryz.pinned (.plain (OpenSpec.ofChange fnSignsSpec)) fnSignsCard

/-- THE TIED CARD OF 'laws.FnExactPartsOfCompound'. -/
def fnExactPartsOfCompoundCard : Claim7 := { stood := { row := fnExactPartsOfCompoundRow, standIns := [], harness := (true, "059d9ade3de631e4f8d264696f12e9cbfefd5e901851c41965b1b194c3c02d51"), looks := true }, kinds := [], alts := [], laidByText := true, laidKinds := [.data, .data, .data], laidTests := true, laidLooks := .later }
def FnExactPartsOfCompoundCardSaid : Prop := Claim7.holds Tryz.pinned (.plain (OpenSpec.ofChange fnExactPartsOfCompoundSpec)) fnExactPartsOfCompoundCard

/-- THE SECOND FORM's CARD OF 'laws.FnExactPatternOf'. -/
def fnExactPatternOfUptoCard : Claim7 := { stood := { row := fnExactPatternOfUptoRow, standIns := [], harness := (true, "059d9ade3de631e4f8d264696f12e9cbfefd5e901851c41965b1b194c3c02d51"), looks := true }, kinds := [], alts := [], laidByText := true, laidKinds := [.data, .data, .data], laidTests := true, laidLooks := .later }
def FnExactPatternOfUptoCardSaid : Prop := Claim7.holds Tryz.pinned (.plain (OpenSpec.upto fnExactPatternOfSpec)) fnExactPatternOfUptoCard

/-- THE SECOND FORM's CARD OF 'laws.FnExactIsMinimalPair'. -/
def fnExactIsMinimalPairUptoCard : Claim7 := { stood := { row := fnExactIsMinimalPairUptoRow, standIns := [], harness := (true, "059d9ade3de631e4f8d264696f12e9cbfefd5e901851c41965b1b194c3c02d51"), looks := true }, kinds := [], alts := [], laidByText := true, laidKinds := [.data, .data, .data], laidTests := true, laidLooks := .later }
def FnExactIsMinimalPairUptoCardSaid : Prop := Claim7.holds Tryz.pinned (.plain (OpenSpec.upto fnExactIsMinimalPairSpec)) fnExactIsMinimalPairUptoCard

/-- THE SECOND FORM's CARD OF 'laws.FnExactSignsText'. -/
def fnExactSignsTextUptoCard : Claim7 := { stood := { row := fnExactSignsTextUptoRow, standIns := [], harness := (true, "059d9ade3de631e4f8d264696f12e9cbfefd5e901851c41965b1b194c3c02d51"), looks := true }, kinds := [], alts := [], laidByText := true, laidKinds := [.data, .data, .data], laidTests := true, laidLooks := .later }
def FnExactSignsTextUptoCardSaid : Prop := Claim7.holds Tryz.pinned (.plain (OpenSpec.upto fnExactSignsTextSpec)) fnExactSignsTextUptoCard

/-- THE SECOND FORM's CARD OF 'laws.FnExactCompareSigns'. -/
def fnExactCompareSignsUptoCard : Claim7 := { stood := { row := fnExactCompareSignsUptoRow, standIns := [], harness := (true, "059d9ade3de631e4f8d264696f12e9cbfefd5e901851c41965b1b194c3c02d51"), looks := true }, kinds := [], alts := [], laidByText := true, laidKinds := [.data, .data, .data], laidTests := true, laidLooks := .later }
def FnExactCompareSignsUptoCardSaid : Prop := Claim7.holds Tryz.pinned (.plain (OpenSpec.upto fnExactCompareSignsSpec)) fnExactCompareSignsUptoCard

/-- THE SECOND FORM's CARD OF 'laws.FnExactCompoundText'. -/
def fnExactCompoundTextUptoCard : Claim7 := { stood := { row := fnExactCompoundTextUptoRow, standIns := [], harness := (true, "059d9ade3de631e4f8d264696f12e9cbfefd5e901851c41965b1b194c3c02d51"), looks := true }, kinds := [], alts := [], laidByText := true, laidKinds := [.data, .data, .data], laidTests := true, laidLooks := .later }
def FnExactCompoundTextUptoCardSaid : Prop := Claim7.holds Tryz.pinned (.plain (OpenSpec.upto fnExactCompoundTextSpec)) fnExactCompoundTextUptoCard

/-- THE SECOND FORM's CARD OF 'laws.FnExactEntryFor'. -/
def fnExactEntryForUptoCard : Claim7 := { stood := { row := fnExactEntryForUptoRow, standIns := [], harness := (true, "059d9ade3de631e4f8d264696f12e9cbfefd5e901851c41965b1b194c3c02d51"), looks := true }, kinds := [], alts := [], laidByText := true, laidKinds := [.data, .data, .data], laidTests := true, laidLooks := .later }
def FnExactEntryForUptoCardSaid : Prop := Claim7.holds Tryz.pinned (.plain (OpenSpec.upto fnExactEntryForSpec)) fnExactEntryForUptoCard

/-- THE SECOND FORM's CARD OF 'laws.FnExactSortSigns'. -/
def fnExactSortSignsUptoCard : Claim7 := { stood := { row := fnExactSortSignsUptoRow, standIns := [], harness := (true, "059d9ade3de631e4f8d264696f12e9cbfefd5e901851c41965b1b194c3c02d51"), looks := true }, kinds := [], alts := [], laidByText := true, laidKinds := [.data, .data, .data], laidTests := true, laidLooks := .later }
def FnExactSortSignsUptoCardSaid : Prop := Claim7.holds Tryz.pinned (.plain (OpenSpec.upto fnExactSortSignsSpec)) fnExactSortSignsUptoCard

/-- THE SECOND FORM's CARD OF 'laws.FnExactPartsApart'. -/
def fnExactPartsApartUptoCard : Claim7 := { stood := { row := fnExactPartsApartUptoRow, standIns := [], harness := (true, "059d9ade3de631e4f8d264696f12e9cbfefd5e901851c41965b1b194c3c02d51"), looks := true }, kinds := [], alts := [], laidByText := true, laidKinds := [.data, .data, .data], laidTests := true, laidLooks := .later }
def FnExactPartsApartUptoCardSaid : Prop := Claim7.holds Tryz.pinned (.plain (OpenSpec.upto fnExactPartsApartSpec)) fnExactPartsApartUptoCard

/-- THE SECOND FORM's CARD OF 'laws.FnExactUsesOf'. -/
def fnExactUsesOfUptoCard : Claim7 := { stood := { row := fnExactUsesOfUptoRow, standIns := [], harness := (true, "059d9ade3de631e4f8d264696f12e9cbfefd5e901851c41965b1b194c3c02d51"), looks := true }, kinds := [], alts := [], laidByText := true, laidKinds := [.data, .data, .data], laidTests := true, laidLooks := .later }
def FnExactUsesOfUptoCardSaid : Prop := Claim7.holds Tryz.pinned (.plain (OpenSpec.upto fnExactUsesOfSpec)) fnExactUsesOfUptoCard

/-- THE SECOND FORM's CARD OF 'laws.FnExactNormalSign'. -/
def fnExactNormalSignUptoCard : Claim7 := { stood := { row := fnExactNormalSignUptoRow, standIns := [], harness := (true, "059d9ade3de631e4f8d264696f12e9cbfefd5e901851c41965b1b194c3c02d51"), looks := true }, kinds := [], alts := [], laidByText := true, laidKinds := [.data, .data, .data], laidTests := true, laidLooks := .later }
def FnExactNormalSignUptoCardSaid : Prop := Claim7.holds Tryz.pinned (.plain (OpenSpec.upto fnExactNormalSignSpec)) fnExactNormalSignUptoCard

/-- THE SECOND FORM's CARD OF 'laws.FnSigns'. -/
def fnSignsUptoCard : Claim7 := { stood := { row := fnSignsUptoRow, standIns := [], harness := (true, "059d9ade3de631e4f8d264696f12e9cbfefd5e901851c41965b1b194c3c02d51"), looks := true }, kinds := [], alts := [], laidByText := true, laidKinds := [.data, .data, .data], laidTests := true, laidLooks := .later }
def FnSignsUptoCardSaid : Prop := Claim7.holds Tryz.pinned (.plain (OpenSpec.upto fnSignsSpec)) fnSignsUptoCard

/-- THE SECOND FORM's CARD OF 'laws.FnExactPartsOfCompound'. -/
def fnExactPartsOfCompoundUptoCard : Claim7 := { stood := { row := fnExactPartsOfCompoundUptoRow, standIns := [], harness := (true, "059d9ade3de631e4f8d264696f12e9cbfefd5e901851c41965b1b194c3c02d51"), looks := true }, kinds := [], alts := [], laidByText := true, laidKinds := [.data, .data, .data], laidTests := true, laidLooks := .later }
def FnExactPartsOfCompoundUptoCardSaid : Prop := Claim7.holds Tryz.pinned (.plain (OpenSpec.upto fnExactPartsOfCompoundSpec)) fnExactPartsOfCompoundUptoCard
end Rows
end Go.Proofs.YthmgaaommjienaaGreatDoor
