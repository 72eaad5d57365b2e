/- Plain laws of the plain functions: no program, no memory. By AI agents; no person has read it. -/
import Derived.Test.YtjjhlccjfdcfcaaGreatDoorPR1
set_option linter.unusedVariables false
set_option linter.unusedSimpArgs false
set_option maxRecDepth 100000
set_option maxHeartbeats 40000000
namespace Go.Proofs.XC
open Go Go.RowKit
/-! ### Sorting: the comparison is antisymmetric -/
/-! #### Inserting one -/
/-! #### The reference -/
theorem appS {l m : List Sign} (h : l.length + m.length ≤ 100000) : appG nSign l m = some (l ++ m) := by
  unfold appG
  have hby : nSign.by_ = 232 := rfl
  rw [if_pos]
  rw [hby]
  omega
/-! #### The implementation -/
end Go.Proofs.XC
