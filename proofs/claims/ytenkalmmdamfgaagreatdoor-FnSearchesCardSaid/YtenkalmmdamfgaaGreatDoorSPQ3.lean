/- Plain laws of the plain functions: no program, no memory. By AI agents; no person has read it. -/
import Derived.Test.YtenkalmmdamfgaaGreatDoorSPQ1
set_option linter.unusedVariables false
set_option linter.unusedSimpArgs false
set_option maxRecDepth 100000
set_option maxHeartbeats 40000000
namespace Go.Proofs.XC
open Go Go.RowKit
/-! ### Answers -/
def ans (p : Pattern) (l : List Sign) : List Int := ixs (fun s => costV p s == 0) l 0
theorem i_answers_eq {k : Nat} {p : Pattern} {l : List Sign} (gp : gPat p = true) (hg : ∀ s ∈ l, gSign s = true) (hl : l.length ≤ 1048576) (hk : 100 ≤ k) : X.i_Pattern_answers k p l = some (ans p l) := by
  unfold X.i_Pattern_answers X.i_those_i_Sign ans
  rw [those_gen (fun s => costV p s == 0) (fun _ => rfl) l 0 [] (by simp; omega) (fun i y q hy => ?_)]
  · rfl
  · unfold X.i_Pattern_answers_1
    rw [(cost_eqs gp (hg y (List.mem_of_getElem? hy)) hk).1]
    simp only [bind_some]
    cases (costV p y == 0) <;> simp
theorem s_answers_eq {k : Nat} {p : Pattern} {l : List Sign} (gp : gPat p = true) (hg : ∀ s ∈ l, gSign s = true) (hl : l.length ≤ 1048576) (hk : 100 ≤ k) : X.s_seWithin k p l 0 = some (ans p l) := by
  obtain ⟨q, rfl⟩ : ∃ q, k = q + 2 := ⟨k - 2, by omega⟩
  unfold X.s_seWithin ans
  have d0 : decide ((0 : Int) ≤ 0) = true := rfl
  have d1 : decide (wr (0 + 1) ≤ 0) = false := rfl
  rw [loopM_succ]
  dsimp only
  rw [d0, cond_true]
  rw [those_gen (fun s => costV p s == 0) (fun _ => rfl) l 0 [] (by simp; omega) (fun i y s hy => ?_)]
  · rw [bind_some, bind_some]
    dsimp only
    rw [loopM_succ]
    dsimp only
    rw [d1]
    rfl
  · rw [(cost_eqs gp (hg y (List.mem_of_getElem? hy)) hk).2.1]
    simp only [bind_some]
    cases (costV p y == 0) <;> simp
def vAns (p : Pattern) (l : List Sign) : List Int × Bool := if gPat p && (l.all gSign && decide (l.length ≤ 16)) then (ans p l, true) else ([], false)
theorem i_AnswersFor_eq {k : Nat} {p : Pattern} {l : List Sign} (hp : smallP p) (hs : ∀ s ∈ l, smallS s) (hl : l.length ≤ 1048576) (hk : 100 ≤ k) : X.i_AnswersFor k p l = some (vAns p l) := by
  unfold X.i_AnswersFor vAns
  rw [i_IsPattern_eq hp, i_areSigns_eq hs (by omega), show ((16 : Int)) = ((16 : Nat) : Int) from rfl, len16]
  cases h0 : gPat p <;> cases h1 : l.all gSign <;> cases h2 : decide (l.length ≤ 16) <;> simp only [Bool.true_and, Bool.false_and, Bool.and_true, Bool.and_false, Bool.and_self, Bool.not_true, Bool.not_false, cond_true, cond_false, bind_some, if_true, Bool.false_eq_true, if_false]
  rw [i_answers_eq h0 (by simpa using h1) hl hk]
  rfl
theorem s_AnswersFor_eq {k : Nat} {p : Pattern} {l : List Sign} (hp : smallP p) (hs : ∀ s ∈ l, smallS s) (hl : l.length ≤ 1048576) (hk : 2000010 ≤ k) : X.s_AnswersFor k p l = some (vAns p l) := by
  unfold X.s_AnswersFor X.s_seAsked vAns
  rw [s_seGood_eq hp hk, s_noList_eq hs hk]
  cases h0 : gPat p <;> cases h1 : l.all gSign <;> cases h2 : decide (l.length ≤ 16) <;> simp only [Bool.true_and, Bool.false_and, Bool.and_true, Bool.and_false, Bool.and_self, Bool.not_true, Bool.not_false, cond_true, cond_false, bind_some, if_true, Bool.false_eq_true, if_false]
  rw [s_answers_eq h0 (by simpa using h1) hl (by omega)]
  rfl
/-! ### The weakest pattern -/
theorem mis_q5 (s : Str) : mis [63, 63, 63, 63, 63] s = 0 := rfl
theorem mis_q2 (s : Str) : mis [63, 63] s = 0 := rfl
theorem fit_star (s : Str) : fitV [42] s = true := by
  unfold fitV fitE
  show stepE 42 s (fun j => decide (j = 0)) s.length = true
  unfold stepE
  rw [if_pos rfl, exB_iff]
  exact ⟨0, Nat.zero_le _, rfl⟩
end Go.Proofs.XC
