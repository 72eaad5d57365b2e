/- Plain laws of the plain functions: no program, no memory. By AI agents; no person has read it. -/
import Derived.Test.YtjjhlccjfdcfcaaGreatDoorPL1
import Derived.Test.YtjjhlccjfdcfcaaGreatDoorPE2
set_option linter.unusedVariables false
set_option linter.unusedSimpArgs false
set_option maxRecDepth 100000
set_option maxHeartbeats 40000000
namespace Go.Proofs.XC
open Go Go.RowKit
/-! ### Distances -/
theorem gMove_small {m : Move} (h : gMove m = true) : m.Steps.length ≤ 2000000 := by have := (gMove_iff.1 h).1; omega
theorem nS_small {s : Sign} (g : gSign s = true) : smallS (nS s) := by
  obtain ⟨a1, a2, a3⟩ := nS_isN g
  refine ⟨gMove_small (gHand_iff.1 (isN_good a1)).2.2.2, ?_⟩
  cases h : (nS s).Two
  · rw [a3 h]; exact tiny_small z_tiny
  · exact gMove_small (gHand_iff.1 (isN_good (a2 h))).2.2.2
end Go.Proofs.XC
