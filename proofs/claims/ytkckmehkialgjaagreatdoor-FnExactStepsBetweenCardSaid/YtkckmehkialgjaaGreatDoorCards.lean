/-
  DERIVED. GIVEN WITH THE SEED: THE CARDS: each row of YtkckmehkialgjaaGreatDoorRows.lean that lists a variable, with what it lists TIED to the program's text (the seventh form; the later family's looks); each row that meets fmt, with fmt's text TOLD by the authors' own Lean function (tested against real Go, not proved from fmt's source: count such statements apart). THE CARD IS WHAT COUNTS. Prove the row's statement (the work); the ties are given (YtkckmehkialgjaaGreatDoorTie.lean); close each card by the builder's one call (the guide's Derived/Test/ToyasCard.lean, 'card_holds'). Laid BY PROGRAM, IN A SANDBOX (cutbox-door.mjs). By AI agents, Wed Nov 11 2026. No macro, syntax, notation, axiom, sorry.
-/
import Derived.Test.YtkckmehkialgjaaGreatDoorRows
import GoSem.ClaimSeven
namespace Go.Proofs.YtkckmehkialgjaaGreatDoor
namespace Rows

/-- THE TIED CARD OF 'laws.FnExactSignFault'. -/
def fnExactSignFaultCard : Claim7 := { stood := { row := fnExactSignFaultRow, standIns := [], harness := (true, "d92dcfc035d9826dc24acb9db0539d33de1d365020257dc51535d51e968fc90c"), looks := true }, kinds := [], alts := [], laidByText := true, laidKinds := [.data, .data, .data, .data, .sentinel, .sentinel, .pinned], laidTests := true, laidLooks := .later }
def FnExactSignFaultCardSaid : Prop := Claim7.holds Tryz.pinned (.plain (OpenSpec.ofChange fnExactSignFaultSpec)) fnExactSignFaultCard

/-- THE TIED CARD OF 'laws.FnExactShortText'. -/
def fnExactShortTextCard : Claim7 := { stood := { row := fnExactShortTextRow, standIns := [], harness := (true, "d92dcfc035d9826dc24acb9db0539d33de1d365020257dc51535d51e968fc90c"), looks := true }, kinds := [], alts := [], laidByText := true, laidKinds := [.data, .data, .data, .data, .pinned], laidTests := true, laidLooks := .later }
def FnExactShortTextCardSaid : Prop := Claim7.holds Tryz.pinned (.plain (OpenSpec.ofChange fnExactShortTextSpec)) fnExactShortTextCard

/-- THE TIED CARD OF 'laws.FnExactStepsBetween'. -/
def fnExactStepsBetweenCard : Claim7 := { stood := { row := fnExactStepsBetweenRow, standIns := [], harness := (true, "d92dcfc035d9826dc24acb9db0539d33de1d365020257dc51535d51e968fc90c"), looks := true }, kinds := [], alts := [], laidByText := true, laidKinds := [.data, .data, .data], laidTests := true, laidLooks := .later }
def FnExactStepsBetweenCardSaid : Prop := Claim7.holds Tryz.pinned (.plain (OpenSpec.ofChange fnExactStepsBetweenSpec)) fnExactStepsBetweenCard

/-- THE TIED CARD OF 'laws.FnExactSameGroups'. -/
def fnExactSameGroupsCard : Claim7 := { stood := { row := fnExactSameGroupsRow, standIns := [], harness := (true, "d92dcfc035d9826dc24acb9db0539d33de1d365020257dc51535d51e968fc90c"), looks := true }, kinds := [], alts := [], laidByText := true, laidKinds := [.data, .data, .data], laidTests := true, laidLooks := .later }
def FnExactSameGroupsCardSaid : Prop := Claim7.holds Tryz.pinned (.plain (OpenSpec.ofChange fnExactSameGroupsSpec)) fnExactSameGroupsCard

/-- THE TIED CARD OF 'laws.FnExactSmoothestOrder'. -/
def fnExactSmoothestOrderCard : Claim7 := { stood := { row := fnExactSmoothestOrderRow, standIns := [], harness := (true, "d92dcfc035d9826dc24acb9db0539d33de1d365020257dc51535d51e968fc90c"), looks := true }, kinds := [], alts := [], laidByText := true, laidKinds := [.data, .data, .data], laidTests := true, laidLooks := .later }
def FnExactSmoothestOrderCardSaid : Prop := Claim7.holds Tryz.pinned (.plain (OpenSpec.ofChange fnExactSmoothestOrderSpec)) fnExactSmoothestOrderCard

/-- THE TIED CARD OF 'laws.FnExactBestAnswers'. -/
def fnExactBestAnswersCard : Claim7 := { stood := { row := fnExactBestAnswersRow, standIns := [], harness := (true, "d92dcfc035d9826dc24acb9db0539d33de1d365020257dc51535d51e968fc90c"), looks := true }, kinds := [], alts := [], laidByText := true, laidKinds := [.data, .data, .data], laidTests := true, laidLooks := .later }
def FnExactBestAnswersCardSaid : Prop := Claim7.holds Tryz.pinned (.plain (OpenSpec.ofChange fnExactBestAnswersSpec)) fnExactBestAnswersCard

/-- THE SECOND FORM's CARD OF 'laws.FnExactSignFault'. -/
def fnExactSignFaultUptoCard : Claim7 := { stood := { row := fnExactSignFaultUptoRow, standIns := [], harness := (true, "d92dcfc035d9826dc24acb9db0539d33de1d365020257dc51535d51e968fc90c"), looks := true }, kinds := [], alts := [], laidByText := true, laidKinds := [.data, .data, .data, .data, .sentinel, .sentinel, .pinned], laidTests := true, laidLooks := .later }
def FnExactSignFaultUptoCardSaid : Prop := Claim7.holds Tryz.pinned (.plain (OpenSpec.upto fnExactSignFaultSpec)) fnExactSignFaultUptoCard

/-- THE SECOND FORM's CARD OF 'laws.FnExactShortText'. -/
def fnExactShortTextUptoCard : Claim7 := { stood := { row := fnExactShortTextUptoRow, standIns := [], harness := (true, "d92dcfc035d9826dc24acb9db0539d33de1d365020257dc51535d51e968fc90c"), looks := true }, kinds := [], alts := [], laidByText := true, laidKinds := [.data, .data, .data, .data, .pinned], laidTests := true, laidLooks := .later }
def FnExactShortTextUptoCardSaid : Prop := Claim7.holds Tryz.pinned (.plain (OpenSpec.upto fnExactShortTextSpec)) fnExactShortTextUptoCard

/-- THE SECOND FORM's CARD OF 'laws.FnExactStepsBetween'. -/
def fnExactStepsBetweenUptoCard : Claim7 := { stood := { row := fnExactStepsBetweenUptoRow, standIns := [], harness := (true, "d92dcfc035d9826dc24acb9db0539d33de1d365020257dc51535d51e968fc90c"), looks := true }, kinds := [], alts := [], laidByText := true, laidKinds := [.data, .data, .data], laidTests := true, laidLooks := .later }
def FnExactStepsBetweenUptoCardSaid : Prop := Claim7.holds Tryz.pinned (.plain (OpenSpec.upto fnExactStepsBetweenSpec)) fnExactStepsBetweenUptoCard

/-- THE SECOND FORM's CARD OF 'laws.FnExactSameGroups'. -/
def fnExactSameGroupsUptoCard : Claim7 := { stood := { row := fnExactSameGroupsUptoRow, standIns := [], harness := (true, "d92dcfc035d9826dc24acb9db0539d33de1d365020257dc51535d51e968fc90c"), looks := true }, kinds := [], alts := [], laidByText := true, laidKinds := [.data, .data, .data], laidTests := true, laidLooks := .later }
def FnExactSameGroupsUptoCardSaid : Prop := Claim7.holds Tryz.pinned (.plain (OpenSpec.upto fnExactSameGroupsSpec)) fnExactSameGroupsUptoCard

/-- THE SECOND FORM's CARD OF 'laws.FnExactSmoothestOrder'. -/
def fnExactSmoothestOrderUptoCard : Claim7 := { stood := { row := fnExactSmoothestOrderUptoRow, standIns := [], harness := (true, "d92dcfc035d9826dc24acb9db0539d33de1d365020257dc51535d51e968fc90c"), looks := true }, kinds := [], alts := [], laidByText := true, laidKinds := [.data, .data, .data], laidTests := true, laidLooks := .later }
def FnExactSmoothestOrderUptoCardSaid : Prop := Claim7.holds Tryz.pinned (.plain (OpenSpec.upto fnExactSmoothestOrderSpec)) fnExactSmoothestOrderUptoCard

/-- THE SECOND FORM's CARD OF 'laws.FnExactBestAnswers'. -/
def fnExactBestAnswersUptoCard : Claim7 := { stood := { row := fnExactBestAnswersUptoRow, standIns := [], harness := (true, "d92dcfc035d9826dc24acb9db0539d33de1d365020257dc51535d51e968fc90c"), looks := true }, kinds := [], alts := [], laidByText := true, laidKinds := [.data, .data, .data], laidTests := true, laidLooks := .later }
def FnExactBestAnswersUptoCardSaid : Prop := Claim7.holds Tryz.pinned (.plain (OpenSpec.upto fnExactBestAnswersSpec)) fnExactBestAnswersUptoCard
end Rows
end Go.Proofs.YtkckmehkialgjaaGreatDoor
