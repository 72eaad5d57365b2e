/-
  DERIVED. GIVEN WITH THE SEED: THE CARDS: each row of YtjnablhfhdedfaaGreatDoorRows.lean that lists a variable, with what it lists TIED to the program's text (the seventh form; the later family's looks); each row that meets fmt, with fmt's text TOLD by the authors' own Lean function (tested against real Go, not proved from fmt's source: count such statements apart). THE CARD IS WHAT COUNTS. Prove the row's statement (the work); the ties are given (YtjnablhfhdedfaaGreatDoorTie.lean); close each card by the builder's one call (the guide's Derived/Test/ToyasCard.lean, 'card_holds'). Laid BY PROGRAM, IN A SANDBOX (cutbox-door.mjs). By AI agents, Wed Nov 11 2026. No macro, syntax, notation, axiom, sorry.
-/
import Derived.Test.YtjnablhfhdedfaaGreatDoorRows
import GoSem.ClaimSeven
namespace Go.Proofs.YtjnablhfhdedfaaGreatDoor
namespace Rows

/-- THE TIED CARD OF 'laws.FnExactMostBroken'. -/
def fnExactMostBrokenCard : Claim7 := { stood := { row := fnExactMostBrokenRow, standIns := [], harness := (true, "ef7b29719bf812c803c1428a612008501d3b7a07a770b3783258b2977aed4d05"), looks := true }, kinds := [], alts := [], laidByText := true, laidKinds := [.data, .data, .data], laidTests := true, laidLooks := .later }
def FnExactMostBrokenCardSaid : Prop := Claim7.holds Tryz.pinned (.plain (OpenSpec.ofChange fnExactMostBrokenSpec)) fnExactMostBrokenCard

/-- THE TIED CARD OF 'laws.FnExactHomonymsOf'. -/
def fnExactHomonymsOfCard : Claim7 := { stood := { row := fnExactHomonymsOfRow, standIns := [], harness := (true, "ef7b29719bf812c803c1428a612008501d3b7a07a770b3783258b2977aed4d05"), looks := true }, kinds := [], alts := [], laidByText := true, laidKinds := [.data, .data, .data], laidTests := true, laidLooks := .later }
def FnExactHomonymsOfCardSaid : Prop := Claim7.holds Tryz.pinned (.plain (OpenSpec.ofChange fnExactHomonymsOfSpec)) fnExactHomonymsOfCard

/-- THE TIED CARD OF 'laws.FnHands'. -/
def fnHandsCard : Claim7 := { stood := { row := fnHandsRow, standIns := [], harness := (true, "ef7b29719bf812c803c1428a612008501d3b7a07a770b3783258b2977aed4d05"), looks := true }, kinds := [], alts := [], laidByText := true, laidKinds := [.data, .data, .data], laidTests := true, laidLooks := .later }
def FnHandsCardSaid : Prop := Claim7.holds Tryz.pinned (.plain (OpenSpec.ofChange fnHandsSpec)) fnHandsCard

/-- THE TIED CARD OF 'laws.FnExactWithPart'. -/
def fnExactWithPartCard : Claim7 := { stood := { row := fnExactWithPartRow, standIns := [], harness := (true, "ef7b29719bf812c803c1428a612008501d3b7a07a770b3783258b2977aed4d05"), looks := true }, kinds := [], alts := [], laidByText := true, laidKinds := [.data, .data, .data], laidTests := true, laidLooks := .later }
def FnExactWithPartCardSaid : Prop := Claim7.holds Tryz.pinned (.plain (OpenSpec.ofChange fnExactWithPartSpec)) fnExactWithPartCard

/-- THE TIED CARD OF 'laws.FnExactExportAll'. -/
def fnExactExportAllCard : Claim7 := { stood := { row := fnExactExportAllRow, standIns := [], harness := (true, "ef7b29719bf812c803c1428a612008501d3b7a07a770b3783258b2977aed4d05"), looks := true }, kinds := [], alts := [], laidByText := true, laidKinds := [.data, .data, .data], laidTests := true, laidLooks := .later }
def FnExactExportAllCardSaid : Prop := Claim7.holds Tryz.pinned (.plain (OpenSpec.ofChange fnExactExportAllSpec)) fnExactExportAllCard

/-- THE TIED CARD OF 'laws.FnExactBreakersOf'. -/
def fnExactBreakersOfCard : Claim7 := { stood := { row := fnExactBreakersOfRow, standIns := [], harness := (true, "ef7b29719bf812c803c1428a612008501d3b7a07a770b3783258b2977aed4d05"), looks := true }, kinds := [], alts := [], laidByText := true, laidKinds := [.data, .data, .data], laidTests := true, laidLooks := .later }
def FnExactBreakersOfCardSaid : Prop := Claim7.holds Tryz.pinned (.plain (OpenSpec.ofChange fnExactBreakersOfSpec)) fnExactBreakersOfCard

/-- THE TIED CARD OF 'laws.FnExactSmoothestOrder'. -/
def fnExactSmoothestOrderCard : Claim7 := { stood := { row := fnExactSmoothestOrderRow, standIns := [], harness := (true, "ef7b29719bf812c803c1428a612008501d3b7a07a770b3783258b2977aed4d05"), looks := true }, kinds := [], alts := [], laidByText := true, laidKinds := [.data, .data, .data], laidTests := true, laidLooks := .later }
def FnExactSmoothestOrderCardSaid : Prop := Claim7.holds Tryz.pinned (.plain (OpenSpec.ofChange fnExactSmoothestOrderSpec)) fnExactSmoothestOrderCard

/-- THE TIED CARD OF 'laws.FnExactSignDistance'. -/
def fnExactSignDistanceCard : Claim7 := { stood := { row := fnExactSignDistanceRow, standIns := [], harness := (true, "ef7b29719bf812c803c1428a612008501d3b7a07a770b3783258b2977aed4d05"), looks := true }, kinds := [], alts := [], laidByText := true, laidKinds := [.data, .data, .data], laidTests := true, laidLooks := .later }
def FnExactSignDistanceCardSaid : Prop := Claim7.holds Tryz.pinned (.plain (OpenSpec.ofChange fnExactSignDistanceSpec)) fnExactSignDistanceCard

/-- THE TIED CARD OF 'laws.FnExactBestAnswers'. -/
def fnExactBestAnswersCard : Claim7 := { stood := { row := fnExactBestAnswersRow, standIns := [], harness := (true, "ef7b29719bf812c803c1428a612008501d3b7a07a770b3783258b2977aed4d05"), looks := true }, kinds := [], alts := [], laidByText := true, laidKinds := [.data, .data, .data], laidTests := true, laidLooks := .later }
def FnExactBestAnswersCardSaid : Prop := Claim7.holds Tryz.pinned (.plain (OpenSpec.ofChange fnExactBestAnswersSpec)) fnExactBestAnswersCard

/-- THE TIED CARD OF 'laws.FnExactCostOfMatch'. -/
def fnExactCostOfMatchCard : Claim7 := { stood := { row := fnExactCostOfMatchRow, standIns := [], harness := (true, "ef7b29719bf812c803c1428a612008501d3b7a07a770b3783258b2977aed4d05"), looks := true }, kinds := [], alts := [], laidByText := true, laidKinds := [.data, .data, .data], laidTests := true, laidLooks := .later }
def FnExactCostOfMatchCardSaid : Prop := Claim7.holds Tryz.pinned (.plain (OpenSpec.ofChange fnExactCostOfMatchSpec)) fnExactCostOfMatchCard

/-- THE TIED CARD OF 'laws.FnExactMatchesSign'. -/
def fnExactMatchesSignCard : Claim7 := { stood := { row := fnExactMatchesSignRow, standIns := [], harness := (true, "ef7b29719bf812c803c1428a612008501d3b7a07a770b3783258b2977aed4d05"), looks := true }, kinds := [], alts := [], laidByText := true, laidKinds := [.data, .data, .data], laidTests := true, laidLooks := .later }
def FnExactMatchesSignCardSaid : Prop := Claim7.holds Tryz.pinned (.plain (OpenSpec.ofChange fnExactMatchesSignSpec)) fnExactMatchesSignCard

/-- THE TIED CARD OF 'laws.FnExactVariantsOf'. -/
def fnExactVariantsOfCard : Claim7 := { stood := { row := fnExactVariantsOfRow, standIns := [], harness := (true, "ef7b29719bf812c803c1428a612008501d3b7a07a770b3783258b2977aed4d05"), looks := true }, kinds := [], alts := [], laidByText := true, laidKinds := [.data, .data, .data], laidTests := true, laidLooks := .later }
def FnExactVariantsOfCardSaid : Prop := Claim7.holds Tryz.pinned (.plain (OpenSpec.ofChange fnExactVariantsOfSpec)) fnExactVariantsOfCard

/-- THE SECOND FORM's CARD OF 'laws.FnExactMostBroken'. -/
def fnExactMostBrokenUptoCard : Claim7 := { stood := { row := fnExactMostBrokenUptoRow, standIns := [], harness := (true, "ef7b29719bf812c803c1428a612008501d3b7a07a770b3783258b2977aed4d05"), looks := true }, kinds := [], alts := [], laidByText := true, laidKinds := [.data, .data, .data], laidTests := true, laidLooks := .later }
def FnExactMostBrokenUptoCardSaid : Prop := Claim7.holds Tryz.pinned (.plain (OpenSpec.upto fnExactMostBrokenSpec)) fnExactMostBrokenUptoCard

/-- THE SECOND FORM's CARD OF 'laws.FnExactHomonymsOf'. -/
def fnExactHomonymsOfUptoCard : Claim7 := { stood := { row := fnExactHomonymsOfUptoRow, standIns := [], harness := (true, "ef7b29719bf812c803c1428a612008501d3b7a07a770b3783258b2977aed4d05"), looks := true }, kinds := [], alts := [], laidByText := true, laidKinds := [.data, .data, .data], laidTests := true, laidLooks := .later }
def FnExactHomonymsOfUptoCardSaid : Prop := Claim7.holds Tryz.pinned (.plain (OpenSpec.upto fnExactHomonymsOfSpec)) fnExactHomonymsOfUptoCard

/-- THE SECOND FORM's CARD OF 'laws.FnHands'. -/
def fnHandsUptoCard : Claim7 := { stood := { row := fnHandsUptoRow, standIns := [], harness := (true, "ef7b29719bf812c803c1428a612008501d3b7a07a770b3783258b2977aed4d05"), looks := true }, kinds := [], alts := [], laidByText := true, laidKinds := [.data, .data, .data], laidTests := true, laidLooks := .later }
def FnHandsUptoCardSaid : Prop := Claim7.holds Tryz.pinned (.plain (OpenSpec.upto fnHandsSpec)) fnHandsUptoCard

/-- THE SECOND FORM's CARD OF 'laws.FnExactWithPart'. -/
def fnExactWithPartUptoCard : Claim7 := { stood := { row := fnExactWithPartUptoRow, standIns := [], harness := (true, "ef7b29719bf812c803c1428a612008501d3b7a07a770b3783258b2977aed4d05"), looks := true }, kinds := [], alts := [], laidByText := true, laidKinds := [.data, .data, .data], laidTests := true, laidLooks := .later }
def FnExactWithPartUptoCardSaid : Prop := Claim7.holds Tryz.pinned (.plain (OpenSpec.upto fnExactWithPartSpec)) fnExactWithPartUptoCard

/-- THE SECOND FORM's CARD OF 'laws.FnExactExportAll'. -/
def fnExactExportAllUptoCard : Claim7 := { stood := { row := fnExactExportAllUptoRow, standIns := [], harness := (true, "ef7b29719bf812c803c1428a612008501d3b7a07a770b3783258b2977aed4d05"), looks := true }, kinds := [], alts := [], laidByText := true, laidKinds := [.data, .data, .data], laidTests := true, laidLooks := .later }
def FnExactExportAllUptoCardSaid : Prop := Claim7.holds Tryz.pinned (.plain (OpenSpec.upto fnExactExportAllSpec)) fnExactExportAllUptoCard

/-- THE SECOND FORM's CARD OF 'laws.FnExactBreakersOf'. -/
def fnExactBreakersOfUptoCard : Claim7 := { stood := { row := fnExactBreakersOfUptoRow, standIns := [], harness := (true, "ef7b29719bf812c803c1428a612008501d3b7a07a770b3783258b2977aed4d05"), looks := true }, kinds := [], alts := [], laidByText := true, laidKinds := [.data, .data, .data], laidTests := true, laidLooks := .later }
def FnExactBreakersOfUptoCardSaid : Prop := Claim7.holds Tryz.pinned (.plain (OpenSpec.upto fnExactBreakersOfSpec)) fnExactBreakersOfUptoCard

/-- THE SECOND FORM's CARD OF 'laws.FnExactSmoothestOrder'. -/
def fnExactSmoothestOrderUptoCard : Claim7 := { stood := { row := fnExactSmoothestOrderUptoRow, standIns := [], harness := (true, "ef7b29719bf812c803c1428a612008501d3b7a07a770b3783258b2977aed4d05"), looks := true }, kinds := [], alts := [], laidByText := true, laidKinds := [.data, .data, .data], laidTests := true, laidLooks := .later }
def FnExactSmoothestOrderUptoCardSaid : Prop := Claim7.holds Tryz.pinned (.plain (OpenSpec.upto fnExactSmoothestOrderSpec)) fnExactSmoothestOrderUptoCard

/-- THE SECOND FORM's CARD OF 'laws.FnExactSignDistance'. -/
def fnExactSignDistanceUptoCard : Claim7 := { stood := { row := fnExactSignDistanceUptoRow, standIns := [], harness := (true, "ef7b29719bf812c803c1428a612008501d3b7a07a770b3783258b2977aed4d05"), looks := true }, kinds := [], alts := [], laidByText := true, laidKinds := [.data, .data, .data], laidTests := true, laidLooks := .later }
def FnExactSignDistanceUptoCardSaid : Prop := Claim7.holds Tryz.pinned (.plain (OpenSpec.upto fnExactSignDistanceSpec)) fnExactSignDistanceUptoCard

/-- THE SECOND FORM's CARD OF 'laws.FnExactBestAnswers'. -/
def fnExactBestAnswersUptoCard : Claim7 := { stood := { row := fnExactBestAnswersUptoRow, standIns := [], harness := (true, "ef7b29719bf812c803c1428a612008501d3b7a07a770b3783258b2977aed4d05"), looks := true }, kinds := [], alts := [], laidByText := true, laidKinds := [.data, .data, .data], laidTests := true, laidLooks := .later }
def FnExactBestAnswersUptoCardSaid : Prop := Claim7.holds Tryz.pinned (.plain (OpenSpec.upto fnExactBestAnswersSpec)) fnExactBestAnswersUptoCard

/-- THE SECOND FORM's CARD OF 'laws.FnExactCostOfMatch'. -/
def fnExactCostOfMatchUptoCard : Claim7 := { stood := { row := fnExactCostOfMatchUptoRow, standIns := [], harness := (true, "ef7b29719bf812c803c1428a612008501d3b7a07a770b3783258b2977aed4d05"), looks := true }, kinds := [], alts := [], laidByText := true, laidKinds := [.data, .data, .data], laidTests := true, laidLooks := .later }
def FnExactCostOfMatchUptoCardSaid : Prop := Claim7.holds Tryz.pinned (.plain (OpenSpec.upto fnExactCostOfMatchSpec)) fnExactCostOfMatchUptoCard

/-- THE SECOND FORM's CARD OF 'laws.FnExactMatchesSign'. -/
def fnExactMatchesSignUptoCard : Claim7 := { stood := { row := fnExactMatchesSignUptoRow, standIns := [], harness := (true, "ef7b29719bf812c803c1428a612008501d3b7a07a770b3783258b2977aed4d05"), looks := true }, kinds := [], alts := [], laidByText := true, laidKinds := [.data, .data, .data], laidTests := true, laidLooks := .later }
def FnExactMatchesSignUptoCardSaid : Prop := Claim7.holds Tryz.pinned (.plain (OpenSpec.upto fnExactMatchesSignSpec)) fnExactMatchesSignUptoCard

/-- THE SECOND FORM's CARD OF 'laws.FnExactVariantsOf'. -/
def fnExactVariantsOfUptoCard : Claim7 := { stood := { row := fnExactVariantsOfUptoRow, standIns := [], harness := (true, "ef7b29719bf812c803c1428a612008501d3b7a07a770b3783258b2977aed4d05"), looks := true }, kinds := [], alts := [], laidByText := true, laidKinds := [.data, .data, .data], laidTests := true, laidLooks := .later }
def FnExactVariantsOfUptoCardSaid : Prop := Claim7.holds Tryz.pinned (.plain (OpenSpec.upto fnExactVariantsOfSpec)) fnExactVariantsOfUptoCard
end Rows
end Go.Proofs.YtjnablhfhdedfaaGreatDoor
