/- Plain laws of the plain functions: no program, no memory. By AI agents; no person has read it. -/
import Derived.Test.YtjjhlccjfdcfcaaGreatDoorPL5
import Derived.Test.YtjjhlccjfdcfcaaGreatDoorPR1
set_option linter.unusedVariables false
set_option linter.unusedSimpArgs false
set_option maxRecDepth 100000
set_option maxHeartbeats 40000000
namespace Go.Proofs.XC
open Go Go.RowKit
/-! ### Near signs -/
def liI (j : Nat) (l : List Sign) : Prop := allT l ∧ l.length = j
/-! #### The law -/
theorem qInts_refl (l : List Int) : X.l_qInts l l = some true := by
  unfold X.l_qInts
  rw [bne_self_eq_false, cond_false, range_all0 l]
  · rfl
  · intro i x hx
    rw [getI_of hx, bind_some, bne_self_eq_false, cond_false]
end Go.Proofs.XC
