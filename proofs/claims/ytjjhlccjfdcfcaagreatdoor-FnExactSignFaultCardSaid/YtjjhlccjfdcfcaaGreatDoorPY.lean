/- Plain laws of the plain functions: no program, no memory. By AI agents; no person has read it. -/
import Derived.Test.YtjjhlccjfdcfcaaGreatDoorPX
set_option linter.unusedVariables false
set_option linter.unusedSimpArgs false
set_option maxRecDepth 100000
set_option maxHeartbeats 40000000
namespace Go.Proofs.XC
open Go Go.RowKit
/-! ### Loops over an index -/
theorem wr_suc {n : Nat} (h : n ≤ 4611686018427387904) : wr ((n : Int) + 1) = ((n + 1 : Nat) : Int) := by
  rw [wr_of (by omega) (by omega)]
  omega
end Go.Proofs.XC
