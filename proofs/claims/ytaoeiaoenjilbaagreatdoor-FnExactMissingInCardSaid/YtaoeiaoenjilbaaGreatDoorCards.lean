/-
  DERIVED. GIVEN WITH THE SEED: THE CARDS: each row of YtaoeiaoenjilbaaGreatDoorRows.lean that lists a variable, with what it lists TIED to the program's text (the seventh form; the later family's looks); each row that meets fmt, with fmt's text TOLD by the authors' own Lean function (tested against real Go, not proved from fmt's source: count such statements apart). THE CARD IS WHAT COUNTS. Prove the row's statement (the work); the ties are given (YtaoeiaoenjilbaaGreatDoorTie.lean); close each card by the builder's one call (the guide's Derived/Test/ToyasCard.lean, 'card_holds'). Laid BY PROGRAM, IN A SANDBOX (cutbox-door.mjs). By AI agents, Wed Nov 11 2026. No macro, syntax, notation, axiom, sorry.
-/
import Derived.Test.YtaoeiaoenjilbaaGreatDoorRows
import GoSem.ClaimSeven
namespace Go.Proofs.YtaoeiaoenjilbaaGreatDoor
namespace Rows

/-- THE TIED CARD OF 'laws.FnExactFarthestPair'. -/
def fnExactFarthestPairCard : Claim7 := { stood := { row := fnExactFarthestPairRow, standIns := [], harness := (true, "5ac53edca048a1324cee053c6d1db260435db293a2ee5307cb804b839f371ce1"), looks := true }, kinds := [], alts := [], laidByText := true, laidKinds := [.data, .data, .data], laidTests := true, laidLooks := .later }
def FnExactFarthestPairCardSaid : Prop := Claim7.holds Tryz.pinned (.plain (OpenSpec.ofChange fnExactFarthestPairSpec)) fnExactFarthestPairCard

/-- THE TIED CARD OF 'laws.FnExactLoadOf'. -/
def fnExactLoadOfCard : Claim7 := { stood := { row := fnExactLoadOfRow, standIns := [], harness := (true, "5ac53edca048a1324cee053c6d1db260435db293a2ee5307cb804b839f371ce1"), looks := true }, kinds := [], alts := [], laidByText := true, laidKinds := [.data, .data, .data], laidTests := true, laidLooks := .later }
def FnExactLoadOfCardSaid : Prop := Claim7.holds Tryz.pinned (.plain (OpenSpec.ofChange fnExactLoadOfSpec)) fnExactLoadOfCard

/-- THE TIED CARD OF 'laws.FnExactMiddleSign'. -/
def fnExactMiddleSignCard : Claim7 := { stood := { row := fnExactMiddleSignRow, standIns := [], harness := (true, "5ac53edca048a1324cee053c6d1db260435db293a2ee5307cb804b839f371ce1"), looks := true }, kinds := [], alts := [], laidByText := true, laidKinds := [.data, .data, .data], laidTests := true, laidLooks := .later }
def FnExactMiddleSignCardSaid : Prop := Claim7.holds Tryz.pinned (.plain (OpenSpec.ofChange fnExactMiddleSignSpec)) fnExactMiddleSignCard

/-- THE TIED CARD OF 'laws.FnExactMinimalPairs'. -/
def fnExactMinimalPairsCard : Claim7 := { stood := { row := fnExactMinimalPairsRow, standIns := [], harness := (true, "5ac53edca048a1324cee053c6d1db260435db293a2ee5307cb804b839f371ce1"), looks := true }, kinds := [], alts := [], laidByText := true, laidKinds := [.data, .data, .data], laidTests := true, laidLooks := .later }
def FnExactMinimalPairsCardSaid : Prop := Claim7.holds Tryz.pinned (.plain (OpenSpec.ofChange fnExactMinimalPairsSpec)) fnExactMinimalPairsCard

/-- THE TIED CARD OF 'laws.FnExactPairsBy'. -/
def fnExactPairsByCard : Claim7 := { stood := { row := fnExactPairsByRow, standIns := [], harness := (true, "5ac53edca048a1324cee053c6d1db260435db293a2ee5307cb804b839f371ce1"), looks := true }, kinds := [], alts := [], laidByText := true, laidKinds := [.data, .data, .data], laidTests := true, laidLooks := .later }
def FnExactPairsByCardSaid : Prop := Claim7.holds Tryz.pinned (.plain (OpenSpec.ofChange fnExactPairsBySpec)) fnExactPairsByCard

/-- THE TIED CARD OF 'laws.FnExactDistanceTable'. -/
def fnExactDistanceTableCard : Claim7 := { stood := { row := fnExactDistanceTableRow, standIns := [], harness := (true, "5ac53edca048a1324cee053c6d1db260435db293a2ee5307cb804b839f371ce1"), looks := true }, kinds := [], alts := [], laidByText := true, laidKinds := [.data, .data, .data], laidTests := true, laidLooks := .later }
def FnExactDistanceTableCardSaid : Prop := Claim7.holds Tryz.pinned (.plain (OpenSpec.ofChange fnExactDistanceTableSpec)) fnExactDistanceTableCard

/-- THE TIED CARD OF 'laws.FnExactSameGroups'. -/
def fnExactSameGroupsCard : Claim7 := { stood := { row := fnExactSameGroupsRow, standIns := [], harness := (true, "5ac53edca048a1324cee053c6d1db260435db293a2ee5307cb804b839f371ce1"), looks := true }, kinds := [], alts := [], laidByText := true, laidKinds := [.data, .data, .data], laidTests := true, laidLooks := .later }
def FnExactSameGroupsCardSaid : Prop := Claim7.holds Tryz.pinned (.plain (OpenSpec.ofChange fnExactSameGroupsSpec)) fnExactSameGroupsCard

/-- THE TIED CARD OF 'laws.FnExactStepsBetween'. -/
def fnExactStepsBetweenCard : Claim7 := { stood := { row := fnExactStepsBetweenRow, standIns := [], harness := (true, "5ac53edca048a1324cee053c6d1db260435db293a2ee5307cb804b839f371ce1"), looks := true }, kinds := [], alts := [], laidByText := true, laidKinds := [.data, .data, .data], laidTests := true, laidLooks := .later }
def FnExactStepsBetweenCardSaid : Prop := Claim7.holds Tryz.pinned (.plain (OpenSpec.ofChange fnExactStepsBetweenSpec)) fnExactStepsBetweenCard

/-- THE TIED CARD OF 'laws.FnExactSortSigns'. -/
def fnExactSortSignsCard : Claim7 := { stood := { row := fnExactSortSignsRow, standIns := [], harness := (true, "5ac53edca048a1324cee053c6d1db260435db293a2ee5307cb804b839f371ce1"), looks := true }, kinds := [], alts := [], laidByText := true, laidKinds := [.data, .data, .data], laidTests := true, laidLooks := .later }
def FnExactSortSignsCardSaid : Prop := Claim7.holds Tryz.pinned (.plain (OpenSpec.ofChange fnExactSortSignsSpec)) fnExactSortSignsCard

/-- THE TIED CARD OF 'laws.FnExactRankedGlosses'. -/
def fnExactRankedGlossesCard : Claim7 := { stood := { row := fnExactRankedGlossesRow, standIns := [], harness := (true, "5ac53edca048a1324cee053c6d1db260435db293a2ee5307cb804b839f371ce1"), looks := true }, kinds := [], alts := [], laidByText := true, laidKinds := [.data, .data, .data], laidTests := true, laidLooks := .later }
def FnExactRankedGlossesCardSaid : Prop := Claim7.holds Tryz.pinned (.plain (OpenSpec.ofChange fnExactRankedGlossesSpec)) fnExactRankedGlossesCard

/-- THE TIED CARD OF 'laws.FnExactMissingIn'. -/
def fnExactMissingInCard : Claim7 := { stood := { row := fnExactMissingInRow, standIns := [], harness := (true, "5ac53edca048a1324cee053c6d1db260435db293a2ee5307cb804b839f371ce1"), looks := true }, kinds := [], alts := [], laidByText := true, laidKinds := [.data, .data, .data], laidTests := true, laidLooks := .later }
def FnExactMissingInCardSaid : Prop := Claim7.holds Tryz.pinned (.plain (OpenSpec.ofChange fnExactMissingInSpec)) fnExactMissingInCard

/-- THE TIED CARD OF 'laws.FnExactShortText'. -/
def fnExactShortTextCard : Claim7 := { stood := { row := fnExactShortTextRow, standIns := [], harness := (true, "5ac53edca048a1324cee053c6d1db260435db293a2ee5307cb804b839f371ce1"), looks := true }, kinds := [], alts := [], laidByText := true, laidKinds := [.data, .data, .data, .data, .pinned], laidTests := true, laidLooks := .later }
def FnExactShortTextCardSaid : Prop := Claim7.holds Tryz.pinned (.plain (OpenSpec.ofChange fnExactShortTextSpec)) fnExactShortTextCard

/-- THE SECOND FORM's CARD OF 'laws.FnExactFarthestPair'. -/
def fnExactFarthestPairUptoCard : Claim7 := { stood := { row := fnExactFarthestPairUptoRow, standIns := [], harness := (true, "5ac53edca048a1324cee053c6d1db260435db293a2ee5307cb804b839f371ce1"), looks := true }, kinds := [], alts := [], laidByText := true, laidKinds := [.data, .data, .data], laidTests := true, laidLooks := .later }
def FnExactFarthestPairUptoCardSaid : Prop := Claim7.holds Tryz.pinned (.plain (OpenSpec.upto fnExactFarthestPairSpec)) fnExactFarthestPairUptoCard

/-- THE SECOND FORM's CARD OF 'laws.FnExactLoadOf'. -/
def fnExactLoadOfUptoCard : Claim7 := { stood := { row := fnExactLoadOfUptoRow, standIns := [], harness := (true, "5ac53edca048a1324cee053c6d1db260435db293a2ee5307cb804b839f371ce1"), looks := true }, kinds := [], alts := [], laidByText := true, laidKinds := [.data, .data, .data], laidTests := true, laidLooks := .later }
def FnExactLoadOfUptoCardSaid : Prop := Claim7.holds Tryz.pinned (.plain (OpenSpec.upto fnExactLoadOfSpec)) fnExactLoadOfUptoCard

/-- THE SECOND FORM's CARD OF 'laws.FnExactMiddleSign'. -/
def fnExactMiddleSignUptoCard : Claim7 := { stood := { row := fnExactMiddleSignUptoRow, standIns := [], harness := (true, "5ac53edca048a1324cee053c6d1db260435db293a2ee5307cb804b839f371ce1"), looks := true }, kinds := [], alts := [], laidByText := true, laidKinds := [.data, .data, .data], laidTests := true, laidLooks := .later }
def FnExactMiddleSignUptoCardSaid : Prop := Claim7.holds Tryz.pinned (.plain (OpenSpec.upto fnExactMiddleSignSpec)) fnExactMiddleSignUptoCard

/-- THE SECOND FORM's CARD OF 'laws.FnExactMinimalPairs'. -/
def fnExactMinimalPairsUptoCard : Claim7 := { stood := { row := fnExactMinimalPairsUptoRow, standIns := [], harness := (true, "5ac53edca048a1324cee053c6d1db260435db293a2ee5307cb804b839f371ce1"), looks := true }, kinds := [], alts := [], laidByText := true, laidKinds := [.data, .data, .data], laidTests := true, laidLooks := .later }
def FnExactMinimalPairsUptoCardSaid : Prop := Claim7.holds Tryz.pinned (.plain (OpenSpec.upto fnExactMinimalPairsSpec)) fnExactMinimalPairsUptoCard

/-- THE SECOND FORM's CARD OF 'laws.FnExactPairsBy'. -/
def fnExactPairsByUptoCard : Claim7 := { stood := { row := fnExactPairsByUptoRow, standIns := [], harness := (true, "5ac53edca048a1324cee053c6d1db260435db293a2ee5307cb804b839f371ce1"), looks := true }, kinds := [], alts := [], laidByText := true, laidKinds := [.data, .data, .data], laidTests := true, laidLooks := .later }
def FnExactPairsByUptoCardSaid : Prop := Claim7.holds Tryz.pinned (.plain (OpenSpec.upto fnExactPairsBySpec)) fnExactPairsByUptoCard

/-- THE SECOND FORM's CARD OF 'laws.FnExactDistanceTable'. -/
def fnExactDistanceTableUptoCard : Claim7 := { stood := { row := fnExactDistanceTableUptoRow, standIns := [], harness := (true, "5ac53edca048a1324cee053c6d1db260435db293a2ee5307cb804b839f371ce1"), looks := true }, kinds := [], alts := [], laidByText := true, laidKinds := [.data, .data, .data], laidTests := true, laidLooks := .later }
def FnExactDistanceTableUptoCardSaid : Prop := Claim7.holds Tryz.pinned (.plain (OpenSpec.upto fnExactDistanceTableSpec)) fnExactDistanceTableUptoCard

/-- THE SECOND FORM's CARD OF 'laws.FnExactSameGroups'. -/
def fnExactSameGroupsUptoCard : Claim7 := { stood := { row := fnExactSameGroupsUptoRow, standIns := [], harness := (true, "5ac53edca048a1324cee053c6d1db260435db293a2ee5307cb804b839f371ce1"), looks := true }, kinds := [], alts := [], laidByText := true, laidKinds := [.data, .data, .data], laidTests := true, laidLooks := .later }
def FnExactSameGroupsUptoCardSaid : Prop := Claim7.holds Tryz.pinned (.plain (OpenSpec.upto fnExactSameGroupsSpec)) fnExactSameGroupsUptoCard

/-- THE SECOND FORM's CARD OF 'laws.FnExactStepsBetween'. -/
def fnExactStepsBetweenUptoCard : Claim7 := { stood := { row := fnExactStepsBetweenUptoRow, standIns := [], harness := (true, "5ac53edca048a1324cee053c6d1db260435db293a2ee5307cb804b839f371ce1"), looks := true }, kinds := [], alts := [], laidByText := true, laidKinds := [.data, .data, .data], laidTests := true, laidLooks := .later }
def FnExactStepsBetweenUptoCardSaid : Prop := Claim7.holds Tryz.pinned (.plain (OpenSpec.upto fnExactStepsBetweenSpec)) fnExactStepsBetweenUptoCard

/-- THE SECOND FORM's CARD OF 'laws.FnExactSortSigns'. -/
def fnExactSortSignsUptoCard : Claim7 := { stood := { row := fnExactSortSignsUptoRow, standIns := [], harness := (true, "5ac53edca048a1324cee053c6d1db260435db293a2ee5307cb804b839f371ce1"), looks := true }, kinds := [], alts := [], laidByText := true, laidKinds := [.data, .data, .data], laidTests := true, laidLooks := .later }
def FnExactSortSignsUptoCardSaid : Prop := Claim7.holds Tryz.pinned (.plain (OpenSpec.upto fnExactSortSignsSpec)) fnExactSortSignsUptoCard

/-- THE SECOND FORM's CARD OF 'laws.FnExactRankedGlosses'. -/
def fnExactRankedGlossesUptoCard : Claim7 := { stood := { row := fnExactRankedGlossesUptoRow, standIns := [], harness := (true, "5ac53edca048a1324cee053c6d1db260435db293a2ee5307cb804b839f371ce1"), looks := true }, kinds := [], alts := [], laidByText := true, laidKinds := [.data, .data, .data], laidTests := true, laidLooks := .later }
def FnExactRankedGlossesUptoCardSaid : Prop := Claim7.holds Tryz.pinned (.plain (OpenSpec.upto fnExactRankedGlossesSpec)) fnExactRankedGlossesUptoCard

/-- THE SECOND FORM's CARD OF 'laws.FnExactMissingIn'. -/
def fnExactMissingInUptoCard : Claim7 := { stood := { row := fnExactMissingInUptoRow, standIns := [], harness := (true, "5ac53edca048a1324cee053c6d1db260435db293a2ee5307cb804b839f371ce1"), looks := true }, kinds := [], alts := [], laidByText := true, laidKinds := [.data, .data, .data], laidTests := true, laidLooks := .later }
def FnExactMissingInUptoCardSaid : Prop := Claim7.holds Tryz.pinned (.plain (OpenSpec.upto fnExactMissingInSpec)) fnExactMissingInUptoCard

/-- THE SECOND FORM's CARD OF 'laws.FnExactShortText'. -/
def fnExactShortTextUptoCard : Claim7 := { stood := { row := fnExactShortTextUptoRow, standIns := [], harness := (true, "5ac53edca048a1324cee053c6d1db260435db293a2ee5307cb804b839f371ce1"), looks := true }, kinds := [], alts := [], laidByText := true, laidKinds := [.data, .data, .data, .data, .pinned], laidTests := true, laidLooks := .later }
def FnExactShortTextUptoCardSaid : Prop := Claim7.holds Tryz.pinned (.plain (OpenSpec.upto fnExactShortTextSpec)) fnExactShortTextUptoCard
end Rows
end Go.Proofs.YtaoeiaoenjilbaaGreatDoor
