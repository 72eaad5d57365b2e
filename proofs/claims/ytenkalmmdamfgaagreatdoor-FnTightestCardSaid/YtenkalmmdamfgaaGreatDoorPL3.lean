/- Plain laws of the plain functions: no program, no memory. By AI agents; no person has read it. -/
import Derived.Test.YtenkalmmdamfgaaGreatDoorPL1
import Derived.Test.YtenkalmmdamfgaaGreatDoorPZ5
set_option linter.unusedVariables false
set_option linter.unusedSimpArgs false
set_option maxRecDepth 100000
set_option maxHeartbeats 40000000
namespace Go.Proofs.XC
open Go Go.RowKit
/-! ### Distances -/
theorem gMove_small {m : Move} (h : gMove m = true) : m.Steps.length ≤ 2000000 := by have := (gMove_iff.1 h).1; omega
end Go.Proofs.XC
