/-
  DERIVED. GIVEN WITH THE SEED: THE CARDS: each row of YtenkalmmdamfgaaGreatDoorRows.lean that lists a variable, with what it lists TIED to the program's text (the seventh form; the later family's looks); each row that meets fmt, with fmt's text TOLD by the authors' own Lean function (tested against real Go, not proved from fmt's source: count such statements apart). THE CARD IS WHAT COUNTS. Prove the row's statement (the work); the ties are given (YtenkalmmdamfgaaGreatDoorTie.lean); close each card by the builder's one call (the guide's Derived/Test/ToyasCard.lean, 'card_holds'). Laid BY PROGRAM, IN A SANDBOX (cutbox-door.mjs). By AI agents, Wed Nov 11 2026. No macro, syntax, notation, axiom, sorry.
-/
import Derived.Test.YtenkalmmdamfgaaGreatDoorRows
import GoSem.ClaimSeven
namespace Go.Proofs.YtenkalmmdamfgaaGreatDoor
namespace Rows

/-- THE TIED CARD OF 'laws.FnCompounds'. -/
def fnCompoundsCard : Claim7 := { stood := { row := fnCompoundsRow, standIns := [], harness := (true, "16c56525acf0cb592672e5705224c107b236539b79288aae58721431fc458920"), looks := true }, kinds := [], alts := [], laidByText := true, laidKinds := [.data, .data, .data], laidTests := true, laidLooks := .later }
def FnCompoundsCardSaid : Prop := Claim7.holds Tryz.pinned (.plain (OpenSpec.ofChange fnCompoundsSpec)) fnCompoundsCard

/-- THE TIED CARD OF 'laws.FnTightest'. -/
def fnTightestCard : Claim7 := { stood := { row := fnTightestRow, standIns := [], harness := (true, "16c56525acf0cb592672e5705224c107b236539b79288aae58721431fc458920"), looks := true }, kinds := [], alts := [], laidByText := true, laidKinds := [.data, .data, .data], laidTests := true, laidLooks := .later }
def FnTightestCardSaid : Prop := Claim7.holds Tryz.pinned (.plain (OpenSpec.ofChange fnTightestSpec)) fnTightestCard

/-- THE TIED CARD OF 'laws.FnConstraints'. -/
def fnConstraintsCard : Claim7 := { stood := { row := fnConstraintsRow, standIns := [], harness := (true, "16c56525acf0cb592672e5705224c107b236539b79288aae58721431fc458920"), looks := true }, kinds := [], alts := [], laidByText := true, laidKinds := [.data, .data, .data], laidTests := true, laidLooks := .later }
def FnConstraintsCardSaid : Prop := Claim7.holds Tryz.pinned (.plain (OpenSpec.ofChange fnConstraintsSpec)) fnConstraintsCard

/-- THE TIED CARD OF 'laws.FnSearches'. -/
def fnSearchesCard : Claim7 := { stood := { row := fnSearchesRow, standIns := [], harness := (true, "16c56525acf0cb592672e5705224c107b236539b79288aae58721431fc458920"), looks := true }, kinds := [], alts := [], laidByText := true, laidKinds := [.data, .data, .data], laidTests := true, laidLooks := .later }
def FnSearchesCardSaid : Prop := Claim7.holds Tryz.pinned (.plain (OpenSpec.ofChange fnSearchesSpec)) fnSearchesCard

/-- THE SECOND FORM's CARD OF 'laws.FnCompounds'. -/
def fnCompoundsUptoCard : Claim7 := { stood := { row := fnCompoundsUptoRow, standIns := [], harness := (true, "16c56525acf0cb592672e5705224c107b236539b79288aae58721431fc458920"), looks := true }, kinds := [], alts := [], laidByText := true, laidKinds := [.data, .data, .data], laidTests := true, laidLooks := .later }
def FnCompoundsUptoCardSaid : Prop := Claim7.holds Tryz.pinned (.plain (OpenSpec.upto fnCompoundsSpec)) fnCompoundsUptoCard

/-- THE SECOND FORM's CARD OF 'laws.FnTightest'. -/
def fnTightestUptoCard : Claim7 := { stood := { row := fnTightestUptoRow, standIns := [], harness := (true, "16c56525acf0cb592672e5705224c107b236539b79288aae58721431fc458920"), looks := true }, kinds := [], alts := [], laidByText := true, laidKinds := [.data, .data, .data], laidTests := true, laidLooks := .later }
def FnTightestUptoCardSaid : Prop := Claim7.holds Tryz.pinned (.plain (OpenSpec.upto fnTightestSpec)) fnTightestUptoCard

/-- THE SECOND FORM's CARD OF 'laws.FnConstraints'. -/
def fnConstraintsUptoCard : Claim7 := { stood := { row := fnConstraintsUptoRow, standIns := [], harness := (true, "16c56525acf0cb592672e5705224c107b236539b79288aae58721431fc458920"), looks := true }, kinds := [], alts := [], laidByText := true, laidKinds := [.data, .data, .data], laidTests := true, laidLooks := .later }
def FnConstraintsUptoCardSaid : Prop := Claim7.holds Tryz.pinned (.plain (OpenSpec.upto fnConstraintsSpec)) fnConstraintsUptoCard

/-- THE SECOND FORM's CARD OF 'laws.FnSearches'. -/
def fnSearchesUptoCard : Claim7 := { stood := { row := fnSearchesUptoRow, standIns := [], harness := (true, "16c56525acf0cb592672e5705224c107b236539b79288aae58721431fc458920"), looks := true }, kinds := [], alts := [], laidByText := true, laidKinds := [.data, .data, .data], laidTests := true, laidLooks := .later }
def FnSearchesUptoCardSaid : Prop := Claim7.holds Tryz.pinned (.plain (OpenSpec.upto fnSearchesSpec)) fnSearchesUptoCard
end Rows
end Go.Proofs.YtenkalmmdamfgaaGreatDoor
