/- Plain laws of the plain functions: no program, no memory. By AI agents; no person has read it. -/
import Derived.Test.YtenkalmmdamfgaaGreatDoorKPZ3
set_option linter.unusedVariables false
set_option linter.unusedSimpArgs false
set_option maxRecDepth 100000
set_option maxHeartbeats 40000000
namespace Go.Proofs.XC
open Go Go.RowKit
/-! ### The breakers of a constraint -/
def brk (x : Constraint) (l : List Sign) : List Int := ixs (fun s => !(keepC x s)) l 0
def vBreak (l : List Sign) (x : Constraint) : List Int × Bool := if l.all gSign && decide (l.length ≤ 20) && gCon x then (brk x l, true) else ([], false)
theorem i_brk_eq {l : List Sign} (x : Constraint) (h : ∀ s ∈ l, gSign s = true) (hl : l.length ≤ 1048576) : X.i_those_i_Sign l (X.i_BreakersOf_1 x) = some (brk x l) := by
  unfold X.i_those_i_Sign brk
  rw [those_gen (fun s => !(keepC x s)) (fun _ => rfl) l 0 [] (by simp; omega) (fun i y s hy => ?_)]
  · rfl
  · unfold X.i_BreakersOf_1
    rw [i_kept_eq x (h y (List.mem_of_getElem? hy))]
    simp only [bind_some]
    cases keepC x y <;> simp
theorem i_BreakersOf_eq {k : Nat} {l : List Sign} (x : Constraint) (hs : ∀ s ∈ l, smallS s) (hl : l.length ≤ 1048576) (hk : 10 ≤ k) : X.i_BreakersOf k l x = some (vBreak l x) := by
  unfold X.i_BreakersOf vBreak
  rw [i_areSigns_eq hs hk, bind_some, i_IsConstraint_eq]
  have e : decide ((l.length : Int) ≤ 20) = decide (l.length ≤ 20) := by rw [Bool.eq_iff_iff]; simp; omega
  rw [e]
  cases h1 : l.all gSign <;> cases h2 : decide (l.length ≤ 20) <;> cases h3 : gCon x <;> simp only [Bool.true_and, Bool.false_and, Bool.and_true, Bool.and_false, Bool.not_true, Bool.not_false, cond_true, cond_false, bind_some, if_true, Bool.false_eq_true, if_false]
  rw [i_brk_eq x (by simpa using h1) hl]
  rfl
theorem s_BreakersOf_eq {k : Nat} {l : List Sign} (x : Constraint) (hs : ∀ s ∈ l, smallS s) (hl : l.length ≤ 1048576) (hk : 2000010 ≤ k) : X.s_BreakersOf k l x = some (vBreak l x) := by
  unfold X.s_BreakersOf vBreak
  rw [s_paList_eq hs hk, bind_some, s_ruGood_eq]
  cases h1 : l.all gSign <;> cases h2 : decide (l.length ≤ 20) <;> cases h3 : gCon x <;> simp only [Bool.true_and, Bool.false_and, Bool.and_true, Bool.and_false, Bool.not_true, Bool.not_false, cond_true, cond_false, bind_some, if_true, Bool.false_eq_true, if_false]
  have h : ∀ s ∈ l, gSign s = true := by simpa using h1
  unfold brk
  rw [those_gen (fun s => !(keepC x s)) (fun _ => rfl) l 0 [] (by simp; omega) (fun i y s hy => ?_)]
  · rfl
  · rw [s_kept_eq x (h y (List.mem_of_getElem? hy)) (by omega)]
    simp only [bind_some]
    cases keepC x y <;> simp
end Go.Proofs.XC
