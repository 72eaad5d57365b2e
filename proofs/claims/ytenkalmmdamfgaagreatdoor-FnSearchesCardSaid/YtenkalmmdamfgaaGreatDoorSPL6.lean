/- Plain laws of the plain functions: no program, no memory. By AI agents; no person has read it. -/
import Derived.Test.YtenkalmmdamfgaaGreatDoorSPL5
import Derived.Test.YtenkalmmdamfgaaGreatDoorSPR1
set_option linter.unusedVariables false
set_option linter.unusedSimpArgs false
set_option maxRecDepth 100000
set_option maxHeartbeats 40000000
namespace Go.Proofs.XC
open Go Go.RowKit
/-! ### Near signs -/
theorem getT {l : List Sign} {z : Int} (h : allT l) (h1 : 0 ≤ z) (h2 : z < (l.length : Int)) : ∃ x, getI l z = some x ∧ tinyS x := by
  obtain ⟨x, e, hx⟩ := el_ex (l := l) (v := z) (by intro e; subst e; simp at h2; omega) ⟨h1, .inl h2⟩
  exact ⟨x, e, h x hx⟩
/-! #### The law -/
end Go.Proofs.XC
