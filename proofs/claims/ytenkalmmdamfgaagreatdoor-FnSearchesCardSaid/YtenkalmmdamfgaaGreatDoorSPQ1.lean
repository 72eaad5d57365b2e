/- Plain laws of the plain functions: no program, no memory. By AI agents; no person has read it. -/
import Derived.Test.YtenkalmmdamfgaaGreatDoorSPZ12
import Derived.Test.YtenkalmmdamfgaaGreatDoorSPZ6
import Derived.Test.YtenkalmmdamfgaaGreatDoorSPY
set_option linter.unusedVariables false
set_option linter.unusedSimpArgs false
set_option maxRecDepth 100000
set_option maxHeartbeats 40000000
namespace Go.Proofs.XC
open Go Go.RowKit
/-! ### Minimal pairs in lists -/
theorem len16 (l : List Sign) (n : Nat) : decide ((l.length : Int) ≤ (n : Int)) = decide (l.length ≤ n) := by rw [Bool.eq_iff_iff]; simp
/-! #### The sign with the most of them -/
/-! #### Pairs with one sign; lonely signs -/
end Go.Proofs.XC
