/-
  DERIVED. GIVEN WITH THE SEED: THE CARDS: each row of YtjjhlccjfdcfcaaGreatDoorRows.lean that lists a variable, with what it lists TIED to the program's text (the seventh form; the later family's looks); each row that meets fmt, with fmt's text TOLD by the authors' own Lean function (tested against real Go, not proved from fmt's source: count such statements apart). THE CARD IS WHAT COUNTS. Prove the row's statement (the work); the ties are given (YtjjhlccjfdcfcaaGreatDoorTie.lean); close each card by the builder's one call (the guide's Derived/Test/ToyasCard.lean, 'card_holds'). Laid BY PROGRAM, IN A SANDBOX (cutbox-door.mjs). By AI agents, Wed Nov 11 2026. No macro, syntax, notation, axiom, sorry.
-/
import Derived.Test.YtjjhlccjfdcfcaaGreatDoorRows
import GoSem.ClaimSeven
namespace Go.Proofs.YtjjhlccjfdcfcaaGreatDoor
namespace Rows

/-- THE TIED CARD OF 'laws.FnExactSignFault'. -/
def fnExactSignFaultCard : Claim7 := { stood := { row := fnExactSignFaultRow, standIns := [], harness := (true, "fb4ec8b34aa413e2e34b6476366217368e6897ab8b7186c31ef02cae702efca8"), looks := true }, kinds := [], alts := [], laidByText := true, laidKinds := [.data, .data, .data, .data, .sentinel, .sentinel, .pinned], laidTests := true, laidLooks := .later }
def FnExactSignFaultCardSaid : Prop := Claim7.holds Tryz.pinned (.plain (OpenSpec.ofChange fnExactSignFaultSpec)) fnExactSignFaultCard

/-- THE TIED CARD OF 'laws.FnSmooth'. -/
def fnSmoothCard : Claim7 := { stood := { row := fnSmoothRow, standIns := [], harness := (true, "fb4ec8b34aa413e2e34b6476366217368e6897ab8b7186c31ef02cae702efca8"), looks := true }, kinds := [], alts := [], laidByText := true, laidKinds := [.data, .data, .data], laidTests := true, laidLooks := .later }
def FnSmoothCardSaid : Prop := Claim7.holds Tryz.pinned (.plain (OpenSpec.ofChange fnSmoothSpec)) fnSmoothCard

/-- THE TIED CARD OF 'laws.FnExactSmoothestOrder'. -/
def fnExactSmoothestOrderCard : Claim7 := { stood := { row := fnExactSmoothestOrderRow, standIns := [], harness := (true, "fb4ec8b34aa413e2e34b6476366217368e6897ab8b7186c31ef02cae702efca8"), looks := true }, kinds := [], alts := [], laidByText := true, laidKinds := [.data, .data, .data], laidTests := true, laidLooks := .later }
def FnExactSmoothestOrderCardSaid : Prop := Claim7.holds Tryz.pinned (.plain (OpenSpec.ofChange fnExactSmoothestOrderSpec)) fnExactSmoothestOrderCard

/-- THE SECOND FORM's CARD OF 'laws.FnExactSignFault'. -/
def fnExactSignFaultUptoCard : Claim7 := { stood := { row := fnExactSignFaultUptoRow, standIns := [], harness := (true, "fb4ec8b34aa413e2e34b6476366217368e6897ab8b7186c31ef02cae702efca8"), looks := true }, kinds := [], alts := [], laidByText := true, laidKinds := [.data, .data, .data, .data, .sentinel, .sentinel, .pinned], laidTests := true, laidLooks := .later }
def FnExactSignFaultUptoCardSaid : Prop := Claim7.holds Tryz.pinned (.plain (OpenSpec.upto fnExactSignFaultSpec)) fnExactSignFaultUptoCard

/-- THE SECOND FORM's CARD OF 'laws.FnSmooth'. -/
def fnSmoothUptoCard : Claim7 := { stood := { row := fnSmoothUptoRow, standIns := [], harness := (true, "fb4ec8b34aa413e2e34b6476366217368e6897ab8b7186c31ef02cae702efca8"), looks := true }, kinds := [], alts := [], laidByText := true, laidKinds := [.data, .data, .data], laidTests := true, laidLooks := .later }
def FnSmoothUptoCardSaid : Prop := Claim7.holds Tryz.pinned (.plain (OpenSpec.upto fnSmoothSpec)) fnSmoothUptoCard

/-- THE SECOND FORM's CARD OF 'laws.FnExactSmoothestOrder'. -/
def fnExactSmoothestOrderUptoCard : Claim7 := { stood := { row := fnExactSmoothestOrderUptoRow, standIns := [], harness := (true, "fb4ec8b34aa413e2e34b6476366217368e6897ab8b7186c31ef02cae702efca8"), looks := true }, kinds := [], alts := [], laidByText := true, laidKinds := [.data, .data, .data], laidTests := true, laidLooks := .later }
def FnExactSmoothestOrderUptoCardSaid : Prop := Claim7.holds Tryz.pinned (.plain (OpenSpec.upto fnExactSmoothestOrderSpec)) fnExactSmoothestOrderUptoCard
end Rows
end Go.Proofs.YtjjhlccjfdcfcaaGreatDoor
