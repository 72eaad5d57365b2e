/- Plain laws of the plain functions: no program, no memory. By AI agents; no person has read it. -/
import Derived.Test.YtjjhlccjfdcfcaaGreatDoorPK1
set_option linter.unusedVariables false
set_option linter.unusedSimpArgs false
set_option maxRecDepth 100000
set_option maxHeartbeats 40000000
namespace Go.Proofs.XC
open Go Go.RowKit
/-! #### Movements -/
/-- Short steps, few times. -/
def tinyM (m : Move) : Prop := m.Steps.length ≤ 13 ∧ m.Repeat ≤ 4 ∧ -9223372036854775808 ≤ m.Repeat
/-! #### Hands -/
def tinyH (h : Hand) : Prop := tinyM h.Move
end Go.Proofs.XC
