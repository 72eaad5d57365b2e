/- Plain laws of the plain functions: no program, no memory. By AI agents; no person has read it. -/
import Derived.Test.YtldkmmopfhhdgaaGreatDoorPL1
import Derived.Test.YtldkmmopfhhdgaaGreatDoorPE2
set_option linter.unusedVariables false
set_option linter.unusedSimpArgs false
set_option maxRecDepth 100000
set_option maxHeartbeats 40000000
namespace Go.Proofs.XC
open Go Go.RowKit
/-! ### Distances -/
def vSame (a b : Sign) : Bool × Bool := if (gSign a && gSign b) = true then (decide (nS a = nS b), true) else (false, false)
theorem i_Same_eq {k : Nat} {a b : Sign} (sa : smallS a) (sb : smallS b) (hk : 10 ≤ k) : X.i_AreSameSign k a b = some (vSame a b) := by
  unfold X.i_AreSameSign vSame
  rw [i_IsSign_eq sa hk, i_IsSign_eq sb hk, bind_some, bind_some]
  cases h1 : gSign a
  · rfl
  cases h2 : gSign b
  · rfl
  simp only [Bool.not_true, cond_false, Bool.and_self, if_true]
  rw [i_normal_eq h1 hk, i_normal_eq h2 hk, bind_some, bind_some, qSign_iff]
end Go.Proofs.XC
