/- Plain laws of the plain functions: no program, no memory. By AI agents; no person has read it. -/
import Derived.Test.YthmgaaommjienaaGreatDoorPY7
set_option linter.unusedVariables false
set_option linter.unusedSimpArgs false
set_option maxRecDepth 100000
set_option maxHeartbeats 40000000
namespace Go.Proofs.XC
open Go Go.RowKit
/-! ### Texts of signs, line by line -/
def lines (l : List Sign) : Str := l.flatMap fun s => tSign s ++ [10]
theorem lines_cons (x : Sign) (l : List Sign) : lines (x :: l) = (tSign x ++ [10]) ++ lines l := rfl
theorem i_lines {l : List Sign} (h : ∀ x ∈ l, gSign x = true) : ∀ (j : Nat) (t : Str), t.length + l.length * 62 ≤ 1000000 → rangeM (fun (j : Int) (x : Sign) (t : Str) => (Option.bind (X.i_Sign_text x) fun s => (Option.bind (catS s ([10] : Str)) fun y => if t.length + y.length ≤ 140737488355328 then some (.inl (t ++ y)) else none))) (fun t => some (t, true)) l j t = some (t ++ lines l, true) := by
  induction l with
  | nil => intro j t _; rw [rangeM_nil]; simp [lines]
  | cons x l ih =>
    intro j t hl
    have hx := tSign_len (h x List.mem_cons_self)
    simp only [List.length_cons] at hl
    rw [rangeM_cons, i_Sign_text_eq (h x List.mem_cons_self), bind_some, catS_of (by simp; omega), bind_some, if_pos (by simp; omega), bind_some]
    refine (ih (fun y hy => h y (List.mem_cons_of_mem _ hy)) (j + 1) _ (by simp; omega)).trans ?_
    rw [lines_cons]
    simp
theorem s_lines {k : Nat} (hk : 1 ≤ k) {l : List Sign} (h : ∀ x ∈ l, gSign x = true) : ∀ (j : Nat) (t : Str), t.length + l.length * 62 ≤ 1000000 → rangeM (fun (j5 : Int) (x6 : Sign) t2 => (Option.bind (X.s_paText k x6) fun v7_2 => (Option.bind (catS v7_2 ([10] : Str)) fun y7_3 => (Option.bind (catS t2 y7_3) fun y7_4 => some (.inl y7_4))))) (fun t2 => some t2) l j t = some (t ++ lines l) := by
  induction l with
  | nil => intro j t _; rw [rangeM_nil]; simp [lines]
  | cons x l ih =>
    intro j t hl
    have hx := tSign_len (h x List.mem_cons_self)
    simp only [List.length_cons] at hl
    rw [rangeM_cons, s_paText_eq (h x List.mem_cons_self) hk, bind_some, catS_of (by simp; omega), bind_some, catS_of (by simp; omega), bind_some, bind_some]
    refine (ih (fun y hy => h y (List.mem_cons_of_mem _ hy)) (j + 1) _ (by simp; omega)).trans ?_
    rw [lines_cons]
    simp
def vText (l : List Sign) : Str × Bool := if l.all gSign && decide (l.length ≤ 20) then (lines l, true) else ([], false)
theorem i_SignsText_eq {k : Nat} {l : List Sign} (hs : ∀ x ∈ l, smallS x) (hk : 10 ≤ k) : X.i_SignsText k l = some (vText l) := by
  unfold X.i_SignsText vText
  by_cases h1 : l.length ≤ 20
  · have e : decide ((l.length : Int) > 20) = false := by simp; omega
    rw [e, cond_false, i_allOf_eq l _ gSign fun x hx => i_IsSign_eq (hs x hx) hk, bind_some]
    cases h : l.all gSign
    · rfl
    · rw [List.all_eq_true] at h
      simp only [Bool.not_true, cond_false, h1, decide_true, Bool.and_true, if_true]
      rw [i_lines h 0 [] (by simp; omega)]
      rfl
  · have e : decide ((l.length : Int) > 20) = true := by simp; omega
    rw [e]
    simp [h1]
theorem s_SignsText_eq {k : Nat} {l : List Sign} (hs : ∀ x ∈ l, smallS x) (hk : 2000010 ≤ k) : X.s_SignsText k l = some (vText l) := by
  unfold X.s_SignsText vText
  rw [s_paList_eq hs hk, bind_some]
  cases hg : (l.all gSign && decide (l.length ≤ 20))
  · rfl
  · rw [Bool.and_eq_true, List.all_eq_true] at hg
    have hl : l.length ≤ 20 := by simpa using hg.2
    simp only [Bool.not_true, cond_false, if_true]
    rw [s_lines (by omega) hg.1 0 [] (by simp; omega), bind_some]
    rfl
theorem Pure.FnExactSignsText (l : List Sign) (hl : okL okSign l) : X.l_FnExactSignsText 3000000 l = some true := by
  refine list_small hl _ _ (by unfold X.l_FnExactSignsText; rfl) fun h1 hs => ?_
  simp only [toSignS_eq h1, bind_some, i_SignsText_eq hs (show 10 ≤ 3000000 by omega), s_SignsText_eq hs (show 2000010 ≤ 3000000 by omega), eqSignS_eq h1, seq_eq]
  simp
end Go.Proofs.XC
