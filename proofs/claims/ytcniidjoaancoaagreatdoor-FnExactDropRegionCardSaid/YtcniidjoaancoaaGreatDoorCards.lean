/-
  DERIVED. GIVEN WITH THE SEED: THE CARDS: each row of YtcniidjoaancoaaGreatDoorRows.lean that lists a variable, with what it lists TIED to the program's text (the seventh form; the later family's looks); each row that meets fmt, with fmt's text TOLD by the authors' own Lean function (tested against real Go, not proved from fmt's source: count such statements apart). THE CARD IS WHAT COUNTS. Prove the row's statement (the work); the ties are given (YtcniidjoaancoaaGreatDoorTie.lean); close each card by the builder's one call (the guide's Derived/Test/ToyasCard.lean, 'card_holds'). Laid BY PROGRAM, IN A SANDBOX (cutbox-door.mjs). By AI agents, Wed Nov 11 2026. No macro, syntax, notation, axiom, sorry.
-/
import Derived.Test.YtcniidjoaancoaaGreatDoorRows
import GoSem.ClaimSeven
namespace Go.Proofs.YtcniidjoaancoaaGreatDoor
namespace Rows

/-- THE TIED CARD OF 'laws.FnExactMostPairs'. -/
def fnExactMostPairsCard : Claim7 := { stood := { row := fnExactMostPairsRow, standIns := [], harness := (true, "4872224e0390e149681f94f385b4fc41857404169a93fd2d1b060e64042376dd"), looks := true }, kinds := [], alts := [], laidByText := true, laidKinds := [.data, .data, .data], laidTests := true, laidLooks := .later }
def FnExactMostPairsCardSaid : Prop := Claim7.holds Tryz.pinned (.plain (OpenSpec.ofChange fnExactMostPairsSpec)) fnExactMostPairsCard

/-- THE TIED CARD OF 'laws.FnExactLawfulSigns'. -/
def fnExactLawfulSignsCard : Claim7 := { stood := { row := fnExactLawfulSignsRow, standIns := [], harness := (true, "4872224e0390e149681f94f385b4fc41857404169a93fd2d1b060e64042376dd"), looks := true }, kinds := [], alts := [], laidByText := true, laidKinds := [.data, .data, .data], laidTests := true, laidLooks := .later }
def FnExactLawfulSignsCardSaid : Prop := Claim7.holds Tryz.pinned (.plain (OpenSpec.ofChange fnExactLawfulSignsSpec)) fnExactLawfulSignsCard

/-- THE TIED CARD OF 'laws.FnExactPairsWith'. -/
def fnExactPairsWithCard : Claim7 := { stood := { row := fnExactPairsWithRow, standIns := [], harness := (true, "4872224e0390e149681f94f385b4fc41857404169a93fd2d1b060e64042376dd"), looks := true }, kinds := [], alts := [], laidByText := true, laidKinds := [.data, .data, .data], laidTests := true, laidLooks := .later }
def FnExactPairsWithCardSaid : Prop := Claim7.holds Tryz.pinned (.plain (OpenSpec.ofChange fnExactPairsWithSpec)) fnExactPairsWithCard

/-- THE TIED CARD OF 'laws.FnExactNearestSign'. -/
def fnExactNearestSignCard : Claim7 := { stood := { row := fnExactNearestSignRow, standIns := [], harness := (true, "4872224e0390e149681f94f385b4fc41857404169a93fd2d1b060e64042376dd"), looks := true }, kinds := [], alts := [], laidByText := true, laidKinds := [.data, .data, .data], laidTests := true, laidLooks := .later }
def FnExactNearestSignCardSaid : Prop := Claim7.holds Tryz.pinned (.plain (OpenSpec.ofChange fnExactNearestSignSpec)) fnExactNearestSignCard

/-- THE TIED CARD OF 'laws.FnExactLonelySigns'. -/
def fnExactLonelySignsCard : Claim7 := { stood := { row := fnExactLonelySignsRow, standIns := [], harness := (true, "4872224e0390e149681f94f385b4fc41857404169a93fd2d1b060e64042376dd"), looks := true }, kinds := [], alts := [], laidByText := true, laidKinds := [.data, .data, .data], laidTests := true, laidLooks := .later }
def FnExactLonelySignsCardSaid : Prop := Claim7.holds Tryz.pinned (.plain (OpenSpec.ofChange fnExactLonelySignsSpec)) fnExactLonelySignsCard

/-- THE TIED CARD OF 'laws.FnExactCompoundOf'. -/
def fnExactCompoundOfCard : Claim7 := { stood := { row := fnExactCompoundOfRow, standIns := [], harness := (true, "4872224e0390e149681f94f385b4fc41857404169a93fd2d1b060e64042376dd"), looks := true }, kinds := [], alts := [], laidByText := true, laidKinds := [.data, .data, .data], laidTests := true, laidLooks := .later }
def FnExactCompoundOfCardSaid : Prop := Claim7.holds Tryz.pinned (.plain (OpenSpec.ofChange fnExactCompoundOfSpec)) fnExactCompoundOfCard

/-- THE TIED CARD OF 'laws.FnExactCompoundsAlike'. -/
def fnExactCompoundsAlikeCard : Claim7 := { stood := { row := fnExactCompoundsAlikeRow, standIns := [], harness := (true, "4872224e0390e149681f94f385b4fc41857404169a93fd2d1b060e64042376dd"), looks := true }, kinds := [], alts := [], laidByText := true, laidKinds := [.data, .data, .data], laidTests := true, laidLooks := .later }
def FnExactCompoundsAlikeCardSaid : Prop := Claim7.holds Tryz.pinned (.plain (OpenSpec.ofChange fnExactCompoundsAlikeSpec)) fnExactCompoundsAlikeCard

/-- THE TIED CARD OF 'laws.FnExactDropRegion'. -/
def fnExactDropRegionCard : Claim7 := { stood := { row := fnExactDropRegionRow, standIns := [], harness := (true, "4872224e0390e149681f94f385b4fc41857404169a93fd2d1b060e64042376dd"), looks := true }, kinds := [], alts := [], laidByText := true, laidKinds := [.data, .data, .data], laidTests := true, laidLooks := .later }
def FnExactDropRegionCardSaid : Prop := Claim7.holds Tryz.pinned (.plain (OpenSpec.ofChange fnExactDropRegionSpec)) fnExactDropRegionCard

/-- THE TIED CARD OF 'laws.FnExactSignsWithin'. -/
def fnExactSignsWithinCard : Claim7 := { stood := { row := fnExactSignsWithinRow, standIns := [], harness := (true, "4872224e0390e149681f94f385b4fc41857404169a93fd2d1b060e64042376dd"), looks := true }, kinds := [], alts := [], laidByText := true, laidKinds := [.data, .data, .data], laidTests := true, laidLooks := .later }
def FnExactSignsWithinCardSaid : Prop := Claim7.holds Tryz.pinned (.plain (OpenSpec.ofChange fnExactSignsWithinSpec)) fnExactSignsWithinCard

/-- THE TIED CARD OF 'laws.FnExactAnswersFor'. -/
def fnExactAnswersForCard : Claim7 := { stood := { row := fnExactAnswersForRow, standIns := [], harness := (true, "4872224e0390e149681f94f385b4fc41857404169a93fd2d1b060e64042376dd"), looks := true }, kinds := [], alts := [], laidByText := true, laidKinds := [.data, .data, .data], laidTests := true, laidLooks := .later }
def FnExactAnswersForCardSaid : Prop := Claim7.holds Tryz.pinned (.plain (OpenSpec.ofChange fnExactAnswersForSpec)) fnExactAnswersForCard

/-- THE TIED CARD OF 'laws.FnExactWeakestFor'. -/
def fnExactWeakestForCard : Claim7 := { stood := { row := fnExactWeakestForRow, standIns := [], harness := (true, "4872224e0390e149681f94f385b4fc41857404169a93fd2d1b060e64042376dd"), looks := true }, kinds := [], alts := [], laidByText := true, laidKinds := [.data, .data, .data], laidTests := true, laidLooks := .later }
def FnExactWeakestForCardSaid : Prop := Claim7.holds Tryz.pinned (.plain (OpenSpec.ofChange fnExactWeakestForSpec)) fnExactWeakestForCard

/-- THE TIED CARD OF 'laws.FnExactDistinctSigns'. -/
def fnExactDistinctSignsCard : Claim7 := { stood := { row := fnExactDistinctSignsRow, standIns := [], harness := (true, "4872224e0390e149681f94f385b4fc41857404169a93fd2d1b060e64042376dd"), looks := true }, kinds := [], alts := [], laidByText := true, laidKinds := [.data, .data, .data], laidTests := true, laidLooks := .later }
def FnExactDistinctSignsCardSaid : Prop := Claim7.holds Tryz.pinned (.plain (OpenSpec.ofChange fnExactDistinctSignsSpec)) fnExactDistinctSignsCard

/-- THE SECOND FORM's CARD OF 'laws.FnExactMostPairs'. -/
def fnExactMostPairsUptoCard : Claim7 := { stood := { row := fnExactMostPairsUptoRow, standIns := [], harness := (true, "4872224e0390e149681f94f385b4fc41857404169a93fd2d1b060e64042376dd"), looks := true }, kinds := [], alts := [], laidByText := true, laidKinds := [.data, .data, .data], laidTests := true, laidLooks := .later }
def FnExactMostPairsUptoCardSaid : Prop := Claim7.holds Tryz.pinned (.plain (OpenSpec.upto fnExactMostPairsSpec)) fnExactMostPairsUptoCard

/-- THE SECOND FORM's CARD OF 'laws.FnExactLawfulSigns'. -/
def fnExactLawfulSignsUptoCard : Claim7 := { stood := { row := fnExactLawfulSignsUptoRow, standIns := [], harness := (true, "4872224e0390e149681f94f385b4fc41857404169a93fd2d1b060e64042376dd"), looks := true }, kinds := [], alts := [], laidByText := true, laidKinds := [.data, .data, .data], laidTests := true, laidLooks := .later }
def FnExactLawfulSignsUptoCardSaid : Prop := Claim7.holds Tryz.pinned (.plain (OpenSpec.upto fnExactLawfulSignsSpec)) fnExactLawfulSignsUptoCard

/-- THE SECOND FORM's CARD OF 'laws.FnExactPairsWith'. -/
def fnExactPairsWithUptoCard : Claim7 := { stood := { row := fnExactPairsWithUptoRow, standIns := [], harness := (true, "4872224e0390e149681f94f385b4fc41857404169a93fd2d1b060e64042376dd"), looks := true }, kinds := [], alts := [], laidByText := true, laidKinds := [.data, .data, .data], laidTests := true, laidLooks := .later }
def FnExactPairsWithUptoCardSaid : Prop := Claim7.holds Tryz.pinned (.plain (OpenSpec.upto fnExactPairsWithSpec)) fnExactPairsWithUptoCard

/-- THE SECOND FORM's CARD OF 'laws.FnExactNearestSign'. -/
def fnExactNearestSignUptoCard : Claim7 := { stood := { row := fnExactNearestSignUptoRow, standIns := [], harness := (true, "4872224e0390e149681f94f385b4fc41857404169a93fd2d1b060e64042376dd"), looks := true }, kinds := [], alts := [], laidByText := true, laidKinds := [.data, .data, .data], laidTests := true, laidLooks := .later }
def FnExactNearestSignUptoCardSaid : Prop := Claim7.holds Tryz.pinned (.plain (OpenSpec.upto fnExactNearestSignSpec)) fnExactNearestSignUptoCard

/-- THE SECOND FORM's CARD OF 'laws.FnExactLonelySigns'. -/
def fnExactLonelySignsUptoCard : Claim7 := { stood := { row := fnExactLonelySignsUptoRow, standIns := [], harness := (true, "4872224e0390e149681f94f385b4fc41857404169a93fd2d1b060e64042376dd"), looks := true }, kinds := [], alts := [], laidByText := true, laidKinds := [.data, .data, .data], laidTests := true, laidLooks := .later }
def FnExactLonelySignsUptoCardSaid : Prop := Claim7.holds Tryz.pinned (.plain (OpenSpec.upto fnExactLonelySignsSpec)) fnExactLonelySignsUptoCard

/-- THE SECOND FORM's CARD OF 'laws.FnExactCompoundOf'. -/
def fnExactCompoundOfUptoCard : Claim7 := { stood := { row := fnExactCompoundOfUptoRow, standIns := [], harness := (true, "4872224e0390e149681f94f385b4fc41857404169a93fd2d1b060e64042376dd"), looks := true }, kinds := [], alts := [], laidByText := true, laidKinds := [.data, .data, .data], laidTests := true, laidLooks := .later }
def FnExactCompoundOfUptoCardSaid : Prop := Claim7.holds Tryz.pinned (.plain (OpenSpec.upto fnExactCompoundOfSpec)) fnExactCompoundOfUptoCard

/-- THE SECOND FORM's CARD OF 'laws.FnExactCompoundsAlike'. -/
def fnExactCompoundsAlikeUptoCard : Claim7 := { stood := { row := fnExactCompoundsAlikeUptoRow, standIns := [], harness := (true, "4872224e0390e149681f94f385b4fc41857404169a93fd2d1b060e64042376dd"), looks := true }, kinds := [], alts := [], laidByText := true, laidKinds := [.data, .data, .data], laidTests := true, laidLooks := .later }
def FnExactCompoundsAlikeUptoCardSaid : Prop := Claim7.holds Tryz.pinned (.plain (OpenSpec.upto fnExactCompoundsAlikeSpec)) fnExactCompoundsAlikeUptoCard

/-- THE SECOND FORM's CARD OF 'laws.FnExactDropRegion'. -/
def fnExactDropRegionUptoCard : Claim7 := { stood := { row := fnExactDropRegionUptoRow, standIns := [], harness := (true, "4872224e0390e149681f94f385b4fc41857404169a93fd2d1b060e64042376dd"), looks := true }, kinds := [], alts := [], laidByText := true, laidKinds := [.data, .data, .data], laidTests := true, laidLooks := .later }
def FnExactDropRegionUptoCardSaid : Prop := Claim7.holds Tryz.pinned (.plain (OpenSpec.upto fnExactDropRegionSpec)) fnExactDropRegionUptoCard

/-- THE SECOND FORM's CARD OF 'laws.FnExactSignsWithin'. -/
def fnExactSignsWithinUptoCard : Claim7 := { stood := { row := fnExactSignsWithinUptoRow, standIns := [], harness := (true, "4872224e0390e149681f94f385b4fc41857404169a93fd2d1b060e64042376dd"), looks := true }, kinds := [], alts := [], laidByText := true, laidKinds := [.data, .data, .data], laidTests := true, laidLooks := .later }
def FnExactSignsWithinUptoCardSaid : Prop := Claim7.holds Tryz.pinned (.plain (OpenSpec.upto fnExactSignsWithinSpec)) fnExactSignsWithinUptoCard

/-- THE SECOND FORM's CARD OF 'laws.FnExactAnswersFor'. -/
def fnExactAnswersForUptoCard : Claim7 := { stood := { row := fnExactAnswersForUptoRow, standIns := [], harness := (true, "4872224e0390e149681f94f385b4fc41857404169a93fd2d1b060e64042376dd"), looks := true }, kinds := [], alts := [], laidByText := true, laidKinds := [.data, .data, .data], laidTests := true, laidLooks := .later }
def FnExactAnswersForUptoCardSaid : Prop := Claim7.holds Tryz.pinned (.plain (OpenSpec.upto fnExactAnswersForSpec)) fnExactAnswersForUptoCard

/-- THE SECOND FORM's CARD OF 'laws.FnExactWeakestFor'. -/
def fnExactWeakestForUptoCard : Claim7 := { stood := { row := fnExactWeakestForUptoRow, standIns := [], harness := (true, "4872224e0390e149681f94f385b4fc41857404169a93fd2d1b060e64042376dd"), looks := true }, kinds := [], alts := [], laidByText := true, laidKinds := [.data, .data, .data], laidTests := true, laidLooks := .later }
def FnExactWeakestForUptoCardSaid : Prop := Claim7.holds Tryz.pinned (.plain (OpenSpec.upto fnExactWeakestForSpec)) fnExactWeakestForUptoCard

/-- THE SECOND FORM's CARD OF 'laws.FnExactDistinctSigns'. -/
def fnExactDistinctSignsUptoCard : Claim7 := { stood := { row := fnExactDistinctSignsUptoRow, standIns := [], harness := (true, "4872224e0390e149681f94f385b4fc41857404169a93fd2d1b060e64042376dd"), looks := true }, kinds := [], alts := [], laidByText := true, laidKinds := [.data, .data, .data], laidTests := true, laidLooks := .later }
def FnExactDistinctSignsUptoCardSaid : Prop := Claim7.holds Tryz.pinned (.plain (OpenSpec.upto fnExactDistinctSignsSpec)) fnExactDistinctSignsUptoCard
end Rows
end Go.Proofs.YtcniidjoaancoaaGreatDoor
