/- Plain laws of the plain functions: no program, no memory. By AI agents; no person has read it. -/
import Derived.Test.YtjjhlccjfdcfcaaGreatDoorPY
set_option linter.unusedVariables false
set_option linter.unusedSimpArgs false
set_option maxRecDepth 100000
set_option maxHeartbeats 40000000
namespace Go.Proofs.XC
open Go Go.RowKit
/-! ### Constraints -/
def stepsS (s : Sign) : Nat := max (allSteps s.Main.Move).length (allSteps s.Other.Move).length
theorem all_zero : X.i_Move_all zMove = some (allSteps zMove) := by decide +kernel
theorem i_all_other {s : Sign} (g : gSign s = true) : X.i_Move_all s.Other.Move = some (allSteps s.Other.Move) := by
  cases h : s.Two with
  | false => rw [gSign_none g h]; exact all_zero
  | true => exact i_Move_all_eq (gHand_iff.1 (gSign_other g h).1).2.2.2
theorem s_all_other {k : Nat} {s : Sign} (g : gSign s = true) (hk : 10 ≤ k) : X.s_mvAll k s.Other.Move = some (allSteps s.Other.Move) := by
  cases h : s.Two with
  | false =>
    rw [gSign_none g h]
    obtain ⟨q, rfl⟩ : ∃ q, k = q + 1 := ⟨k - 1, by omega⟩
    rfl
  | true => exact s_mvAll_eq (gHand_iff.1 (gSign_other g h).1).2.2.2 (by omega)
theorem i_steps_eq {s : Sign} (g : gSign s = true) : X.i_Sign_steps s = some (stepsS s : Int) := by
  unfold X.i_Sign_steps stepsS
  rw [i_Move_all_eq (gHand_iff.1 (gSign_main g)).2.2.2, bind_some, i_all_other g, bind_some]
  congr 1
  split <;> omega
theorem s_steps_eq {k : Nat} {s : Sign} (g : gSign s = true) (hk : 10 ≤ k) : X.s_ruSteps k s = some (stepsS s : Int) := by
  unfold X.s_ruSteps stepsS X.s_l1Most
  rw [s_mvAll_eq (gHand_iff.1 (gSign_main g)).2.2.2 (by omega), bind_some, s_all_other g hk, bind_some]
  by_cases h : ((allSteps s.Main.Move).length : Int) > ((allSteps s.Other.Move).length : Int)
  · simp only [h, decide_true, cond_true, bind_some]
    congr 1
    omega
  · simp only [h, decide_false, cond_false, bind_some]
    congr 1
    omega
end Go.Proofs.XC
