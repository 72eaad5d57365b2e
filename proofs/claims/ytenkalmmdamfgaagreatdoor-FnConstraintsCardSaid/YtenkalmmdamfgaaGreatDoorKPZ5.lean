/- Plain laws of the plain functions: no program, no memory. By AI agents; no person has read it. -/
import Derived.Test.YtenkalmmdamfgaaGreatDoorKPZ4
import Derived.Test.YtenkalmmdamfgaaGreatDoorKPY
set_option linter.unusedVariables false
set_option linter.unusedSimpArgs false
set_option maxRecDepth 100000
set_option maxHeartbeats 40000000
namespace Go.Proofs.XC
open Go Go.RowKit
/-! ### The constraint that is broken most -/
theorem s_ruAll_eq (l : List Constraint) : X.s_ruAll l = some (l.all gCon && decide (l.length ≤ 10)) := by
  unfold X.s_ruAll
  rw [all_range gCon l fun x hx => s_ruGood_eq x]
  cases l.all gCon
  · rfl
  · simp
    omega
theorem i_allC_eq (l : List Constraint) (F : Constraint → Option Bool) (p : Constraint → Bool) (hF : ∀ x ∈ l, F x = some (p x)) : X.i_allOf_i_Constraint l F = some (l.all p) := by
  have hc : X.slices_ContainsFunc_i_Constraint_i_Constraint l (X.i_allOf_i_Constraint_1 F) = some (l.any fun x => !(p x)) := by
    unfold X.slices_ContainsFunc_i_Constraint_i_Constraint X.slices_IndexFunc_i_Constraint_i_Constraint
    exact anyF_eq _ _ l fun x hx => by unfold X.i_allOf_i_Constraint_1; rw [hF x hx]; rfl
  unfold X.i_allOf_i_Constraint
  rw [hc]
  simp only [bind_some]
  congr 1
  rw [List.any_eq_not_all_not]
  simp
theorem i_areC_eq (l : List Constraint) : X.i_areConstraints l = some (l.all gCon && decide (l.length ≤ 10)) := by
  unfold X.i_areConstraints
  rw [i_allC_eq l _ gCon fun x _ => i_IsConstraint_eq x]
  have e : decide ((l.length : Int) ≤ 10) = decide (l.length ≤ 10) := by rw [Bool.eq_iff_iff]; simp; omega
  rw [e]
  cases decide (l.length ≤ 10) <;> cases l.all gCon <;> rfl
end Go.Proofs.XC
