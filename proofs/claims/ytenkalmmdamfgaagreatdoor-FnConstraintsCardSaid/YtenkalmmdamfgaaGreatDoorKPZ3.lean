/- Plain laws of the plain functions: no program, no memory. By AI agents; no person has read it. -/
import Derived.Test.YtenkalmmdamfgaaGreatDoorKPY
set_option linter.unusedVariables false
set_option linter.unusedSimpArgs false
set_option maxRecDepth 100000
set_option maxHeartbeats 40000000
namespace Go.Proofs.XC
open Go Go.RowKit
/-! ### Constraints -/
def mostC (z : Int) : Int := if z = 0 then 18 else if z = 2 then 4 else if z = 3 then 3 else 9
def gCon (x : Constraint) : Bool := inR x.Kind 0 4 && inR x.Value 0 (mostC x.Kind)
theorem getMost {z : Int} (h : inR z 0 4 = true) : getI ([18, 9, 4, 3, 9] : List Int) z = some (mostC z) := by
  unfold inR at h
  simp only [Bool.and_eq_true, decide_eq_true_iff] at h
  have : z = 0 ∨ z = 1 ∨ z = 2 ∨ z = 3 ∨ z = 4 := by omega
  rcases this with rfl | rfl | rfl | rfl | rfl <;> rfl
theorem i_IsConstraint_eq (x : Constraint) : X.i_IsConstraint x = some (gCon x) := by
  unfold X.i_IsConstraint gCon
  rw [i_within_eq, bind_some]
  cases h : inR x.Kind 0 4
  · rfl
  · simp only [cond_true, getMost h, bind_some, i_within_eq, Bool.true_and]
theorem s_ruGood_eq (x : Constraint) : X.s_ruGood x = some (gCon x) := by
  unfold X.s_ruGood X.s_ruMost gCon
  rw [s_l1In_eq, bind_some]
  cases h : inR x.Kind 0 4
  · rfl
  · simp only [cond_true, getMost h, bind_some, s_l1In_eq, Bool.true_and]
    cases h2 : inR x.Value 0 (mostC x.Kind)
    · rfl
    · by_cases h3 : x.Kind = 3
      · rw [h3] at h2
        have : mostC 3 = 3 := rfl
        rw [this] at h2
        simp [h3, h2]
      · have e : (x.Kind != 3) = true := by simpa using h3
        simp [e]
def stepsS (s : Sign) : Nat := max (allSteps s.Main.Move).length (allSteps s.Other.Move).length
theorem all_zero : X.i_Move_all zMove = some (allSteps zMove) := by decide +kernel
theorem i_all_other {s : Sign} (g : gSign s = true) : X.i_Move_all s.Other.Move = some (allSteps s.Other.Move) := by
  cases h : s.Two with
  | false => rw [gSign_none g h]; exact all_zero
  | true => exact i_Move_all_eq (gHand_iff.1 (gSign_other g h).1).2.2.2
theorem s_all_other {k : Nat} {s : Sign} (g : gSign s = true) (hk : 10 ≤ k) : X.s_mvAll k s.Other.Move = some (allSteps s.Other.Move) := by
  cases h : s.Two with
  | false =>
    rw [gSign_none g h]
    obtain ⟨q, rfl⟩ : ∃ q, k = q + 1 := ⟨k - 1, by omega⟩
    rfl
  | true => exact s_mvAll_eq (gHand_iff.1 (gSign_other g h).1).2.2.2 (by omega)
theorem i_steps_eq {s : Sign} (g : gSign s = true) : X.i_Sign_steps s = some (stepsS s : Int) := by
  unfold X.i_Sign_steps stepsS
  rw [i_Move_all_eq (gHand_iff.1 (gSign_main g)).2.2.2, bind_some, i_all_other g, bind_some]
  congr 1
  split <;> omega
theorem s_steps_eq {k : Nat} {s : Sign} (g : gSign s = true) (hk : 10 ≤ k) : X.s_ruSteps k s = some (stepsS s : Int) := by
  unfold X.s_ruSteps stepsS X.s_l1Most
  rw [s_mvAll_eq (gHand_iff.1 (gSign_main g)).2.2.2 (by omega), bind_some, s_all_other g hk, bind_some]
  by_cases h : ((allSteps s.Main.Move).length : Int) > ((allSteps s.Other.Move).length : Int)
  · simp only [h, decide_true, cond_true, bind_some]
    congr 1
    omega
  · simp only [h, decide_false, cond_false, bind_some]
    congr 1
    omega
def openF (s : Shape) : Int := (ixs (fun b => decide (b = 0)) [s.Index, s.Middle, s.Ring, s.Little] 0).length
theorem i_open_eq (s : Shape) : X.i_Shape_open s = some (openF s) := by
  unfold X.i_Shape_open X.i_Shape_bends X.i_those_int openF
  rw [bind_some, those_gen (fun b => decide (b = 0)) (fun _ => rfl) _ 0 [] (by simp) (fun i x s hx => ?_)]
  · rfl
  · unfold X.i_Shape_open_1
    by_cases h : x = 0 <;> simp [beq_dec, h]
theorem s_open_eq (s : Sign) : X.s_ruOpen s = some (openF s.Main.Shape) := by
  unfold X.s_ruOpen X.s_shFingers openF
  rw [bind_some]
  by_cases h1 : s.Main.Shape.Index = 0 <;> by_cases h2 : s.Main.Shape.Middle = 0 <;> by_cases h3 : s.Main.Shape.Ring = 0 <;> by_cases h4 : s.Main.Shape.Little = 0 <;> simp only [rangeM_cons, rangeM, ixs, beq_dec, h1, h2, h3, h4, decide_true, decide_false, cond_true, cond_false, bind_some, if_true, if_false, Bool.false_eq_true] <;> rfl
def keepC (x : Constraint) (s : Sign) : Bool :=
  if x.Kind = 0 then decide ((stepsS s : Int) ≤ x.Value) else if x.Kind = 1 then (s.Main.Place.Region != x.Value) && !(s.Two && (s.Other.Place.Region == x.Value)) else
  if x.Kind = 2 then decide (openF s.Main.Shape ≥ x.Value) else if x.Kind = 3 then (kind s != x.Value) else decide (s.Main.Place.Region ≤ x.Value)
theorem i_kept_eq {s : Sign} (x : Constraint) (g : gSign s = true) : X.i_Constraint_keptBy x s = some (keepC x s) := by
  unfold X.i_Constraint_keptBy keepC
  simp only [i_steps_eq g, i_open_eq, i_kind_eq, bind_some, beq_dec]
  by_cases h0 : x.Kind = 0
  · simp [h0]
  by_cases h1 : x.Kind = 1
  · cases h : (s.Main.Place.Region != x.Value) <;> cases h2 : s.Two <;> simp [h1, h, h2, beq_dec]
  by_cases h2 : x.Kind = 2
  · simp [h2]
  by_cases h3 : x.Kind = 3
  · simp [h3]
  simp [h0, h1, h2, h3]
theorem s_kept_eq {k : Nat} {s : Sign} (x : Constraint) (g : gSign s = true) (hk : 10 ≤ k) : X.s_ruKeeps k s x = some (keepC x s) := by
  unfold X.s_ruKeeps keepC
  simp only [s_steps_eq g hk, s_open_eq, s_kind_eq, bind_some, beq_dec]
  by_cases h0 : x.Kind = 0
  · simp [h0]
  by_cases h1 : x.Kind = 1
  · cases h : (s.Main.Place.Region != x.Value) <;> cases h2 : s.Two <;> simp [h1, h, h2, beq_dec]
    all_goals first | done | (rw [Bool.eq_iff_iff]; simp)
  by_cases h2 : x.Kind = 2
  · simp [h2]
  by_cases h3 : x.Kind = 3
  · simp [h3]
  simp [h0, h1, h2, h3]
end Go.Proofs.XC
