/- Plain laws of the plain functions: no program, no memory. By AI agents; no person has read it. -/
import Derived.Test.YtldkmmopfhhdgaaGreatDoorPQ2
set_option linter.unusedVariables false
set_option linter.unusedSimpArgs false
set_option maxRecDepth 100000
set_option maxHeartbeats 40000000
namespace Go.Proofs.XC
open Go Go.RowKit
/-! ### Answers -/
/-! ### The weakest pattern -/
theorem mis_q5 (s : Str) : mis [63, 63, 63, 63, 63] s = 0 := rfl
theorem mis_q2 (s : Str) : mis [63, 63] s = 0 := rfl
theorem fit_star (s : Str) : fitV [42] s = true := by
  unfold fitV fitE
  show stepE 42 s (fun j => decide (j = 0)) s.length = true
  unfold stepE
  rw [if_pos rfl, exB_iff]
  exact ⟨0, Nat.zero_le _, rfl⟩
theorem pos_len (l : List Int) : decide ((l.length : Int) > 0) = !(decide (l.length = 0)) := by
  cases l with
  | nil => rfl
  | cons x l => simp
end Go.Proofs.XC
