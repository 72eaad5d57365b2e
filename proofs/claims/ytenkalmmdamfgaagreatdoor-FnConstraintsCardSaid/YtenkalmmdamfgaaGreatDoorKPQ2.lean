/- Plain laws of the plain functions: no program, no memory. By AI agents; no person has read it. -/
import Derived.Test.YtenkalmmdamfgaaGreatDoorKPQ1
set_option linter.unusedVariables false
set_option linter.unusedSimpArgs false
set_option maxRecDepth 100000
set_option maxHeartbeats 40000000
namespace Go.Proofs.XC
open Go Go.RowKit
/-! ### The nearest sign, signs within a distance -/
/-! ### Signs that keep all constraints -/
def vLaw (l : List Sign) (c : List Constraint) : List Int × Bool := if l.all gSign && decide (l.length ≤ 20) && (c.all gCon && decide (c.length ≤ 10)) then (ixs (fun s => c.all fun x => keepC x s) l 0, true) else ([], false)
theorem ixs_none {α : Type} (p : α → Bool) : ∀ (l : List α) (j : Nat), decide ((ixs p l j).length = 0) = !(l.any p)
  | [], j => by simp [ixs]
  | x :: l, j => by
    unfold ixs
    cases h : p x
    · simp only [Bool.false_eq_true, if_false, List.any_cons, h, Bool.false_or]
      exact ixs_none p l (j + 1)
    · simp [h]
theorem i_Law_eq {k : Nat} {l : List Sign} (c : List Constraint) (hs : ∀ s ∈ l, smallS s) (hl : l.length ≤ 1048576) (hk : 10 ≤ k) : X.i_LawfulSigns k l c = some (vLaw l c) := by
  unfold X.i_LawfulSigns X.i_those_i_Sign vLaw
  rw [i_areSigns_eq hs hk, i_areC_eq, show ((20 : Int)) = ((20 : Nat) : Int) from rfl, len16]
  cases h1 : l.all gSign <;> cases h2 : decide (l.length ≤ 20) <;> cases h3 : (c.all gCon && decide (c.length ≤ 10)) <;> simp only [Bool.true_and, Bool.false_and, Bool.and_true, Bool.and_false, Bool.and_self, Bool.not_true, Bool.not_false, cond_true, cond_false, bind_some, if_true, Bool.false_eq_true, if_false]
  have hg : ∀ s ∈ l, gSign s = true := by simpa using h1
  rw [those_gen (fun s => c.all fun x => keepC x s) (fun _ => rfl) l 0 [] (by simp; omega) (fun i y q hy => ?_)]
  · rfl
  · unfold X.i_LawfulSigns_1
    rw [i_allC_eq c _ (fun x => keepC x y) fun x _ => by unfold X.i_LawfulSigns_1_1; rw [i_kept_eq x (hg y (List.mem_of_getElem? hy))]; rfl]
    simp only [bind_some]
    cases (c.all fun x => keepC x y) <;> simp
theorem s_Law_eq {k : Nat} {l : List Sign} {c : List Constraint} (hs : ∀ s ∈ l, smallS s) (hl : l.length ≤ 1048576) (hc : c.length ≤ 1048576) (hk : 2000010 ≤ k) : X.s_LawfulSigns k l c = some (vLaw l c) := by
  unfold X.s_LawfulSigns vLaw
  rw [s_paList_eq hs hk, s_ruAll_eq]
  cases h1 : l.all gSign <;> cases h2 : decide (l.length ≤ 20) <;> cases h3 : (c.all gCon && decide (c.length ≤ 10)) <;> simp only [Bool.true_and, Bool.false_and, Bool.and_true, Bool.and_false, Bool.and_self, Bool.not_true, Bool.not_false, cond_true, cond_false, bind_some, if_true, Bool.false_eq_true, if_false]
  have hg : ∀ s ∈ l, gSign s = true := by simpa using h1
  rw [those_gen (fun s => c.all fun x => keepC x s) (fun _ => rfl) l 0 [] (by simp; omega) (fun i y q hy => ?_)]
  · rfl
  · have gy := hg y (List.mem_of_getElem? hy)
    unfold X.s_ruBroken
    rw [those_gen (fun x => !(keepC x y)) (fun _ => rfl) c 0 [] (by simp; omega) (fun i x q hx => by
      rw [s_kept_eq x gy (by omega)]
      simp only [bind_some]
      cases keepC x y <;> simp)]
    have e : (!(c.any fun x => !(keepC x y))) = c.all fun x => keepC x y := by
      rw [List.any_eq_not_all_not]
      simp
    simp only [bind_some, List.nil_append, len0, ixs_none, e]
    cases (c.all fun x => keepC x y) <;> simp
/-! ### Distinct signs -/
end Go.Proofs.XC
