/- Plain laws of the plain functions: no program, no memory. By AI agents; no person has read it. -/
import Derived.Test.YthmgaaommjienaaGreatDoorPX8
set_option linter.unusedVariables false
set_option linter.unusedSimpArgs false
set_option maxRecDepth 100000
set_option maxHeartbeats 40000000
namespace Go.Proofs.XC
open Go Go.RowKit
theorem Pure.FnExactPatternOf (a : Sign) (h : okSign a) : X.l_FnExactPatternOf 3000000 a = some true := law_PatternOf a ⟨h.1.2.2.2.1, h.2.2.2.2.2.1⟩
end Go.Proofs.XC
