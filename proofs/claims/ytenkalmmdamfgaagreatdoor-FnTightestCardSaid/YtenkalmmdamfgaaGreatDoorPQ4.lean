/- Plain laws of the plain functions: no program, no memory. By AI agents; no person has read it. -/
import Derived.Test.YtenkalmmdamfgaaGreatDoorPQ2
set_option linter.unusedVariables false
set_option linter.unusedSimpArgs false
set_option maxRecDepth 100000
set_option maxHeartbeats 40000000
namespace Go.Proofs.XC
open Go Go.RowKit
/-! ### Compounds -/
def cmpd (l : List Sign) : List Sign := (l.take (l.length - 1)).map redS ++ l.drop (l.length - 1)
theorem cmpd_len (l : List Sign) : (cmpd l).length = l.length := by
  unfold cmpd
  simp
theorem cmpd_good {l : List Sign} (hg : ∀ s ∈ l, gSign s = true) : ∀ s ∈ cmpd l, gSign s = true := by
  intro s hs
  unfold cmpd at hs
  rcases List.mem_append.1 hs with h | h
  · obtain ⟨x, hx, rfl⟩ := List.mem_map.1 h
    exact gSign_red (hg x (List.mem_of_mem_take hx))
  · exact hg s (List.mem_of_mem_drop h)
theorem mapG_cut (n : Nat) : ∀ (l : List Sign) (j : Nat), n = j + l.length → mapG (fun j x => if j + 1 < n then redS x else x) l j = (l.take (l.length - 1)).map redS ++ l.drop (l.length - 1)
  | [], j, _ => rfl
  | x :: l, j, h => by
    simp only [List.length_cons] at h
    rw [mapG]
    cases l with
    | nil =>
      simp only [List.length_nil] at h
      have : ¬ j + 1 < n := by omega
      simp [this, mapG]
    | cons y l =>
      have : j + 1 < n := by simp only [List.length_cons] at h; omega
      rw [if_pos this, mapG_cut n (y :: l) (j + 1) (by simp only [List.length_cons] at h ⊢; omega)]
      simp
theorem i_compound_eq {k : Nat} {l : List Sign} (hg : ∀ s ∈ l, gSign s = true) (h1 : 1 ≤ l.length) (hl : l.length ≤ 1000) (hk : 200 ≤ k) : X.i_compound k l = some (cmpd l) := by
  have hc : X.slices_Clone_i_Sign_i_Sign l = some l := by
    unfold X.slices_Clone_i_Sign_i_Sign appG
    have hb : nSign.by_ = 232 := rfl
    rw [if_pos (by rw [hb]; simp; omega)]
    rfl
  have hw : wr ((l.length : Int) - 1) = ((l.length - 1 : Nat) : Int) := by rw [wr_of (by omega) (by omega)]; omega
  unfold X.i_compound
  rw [hc, bind_some, hw, set_gen redS l (by omega) (by omega) fun i y s hi hy hs => ?_]
  · rfl
  · rw [getI_of hs, bind_some, i_reduced_eq (hg y (List.mem_of_getElem? hy)) hk]
    simp only [bind_some, Int.toNat_natCast]
theorem s_cmOf_eq {k : Nat} {l : List Sign} (hg : ∀ s ∈ l, gSign s = true) (hl : l.length ≤ 1000) (hk : 200 ≤ k) : X.s_cmOf k l = some (cmpd l) := by
  unfold X.s_cmOf
  rw [mapG_gen (e := nSign) (fun j x => if j + 1 < l.length then redS x else x) (by decide) l 0 [] (by simp; omega) fun i x s hx => ?_, mapG_cut l.length l 0 (by omega)]
  · rfl
  · have hlt := lt_get hx
    rw [Nat.zero_add, wr_suc (by omega)]
    by_cases h : i + 1 < l.length
    · have : decide (((i + 1 : Nat) : Int) < (l.length : Int)) = true := by simp; omega
      rw [this, cond_true, s_reduce_eq (hg x (List.mem_of_getElem? hx)) hk, bind_some, if_pos h]
    · have : decide (((i + 1 : Nat) : Int) < (l.length : Int)) = false := by simp; omega
      rw [this, cond_false, if_neg h]
theorem gMade_len {l : List Sign} (h : gMade l = true) : 2 ≤ l.length ∧ l.length ≤ 4 := by
  unfold gMade at h
  simp only [Bool.and_eq_true, decide_eq_true_eq] at h
  exact h.1
def vCmpd (l : List Sign) : List Sign × Bool := if gMade l then (cmpd l, true) else ([], false)
theorem i_CompoundOf_eq {k : Nat} {l : List Sign} (hs : ∀ s ∈ l, smallS s) (hk : 200 ≤ k) : X.i_CompoundOf k l = some (vCmpd l) := by
  unfold X.i_CompoundOf vCmpd
  rw [i_isMade_eq hs (by omega)]
  cases h : gMade l <;> simp only [Bool.true_and, Bool.false_and, Bool.and_true, Bool.and_false, Bool.and_self, Bool.not_true, Bool.not_false, cond_true, cond_false, bind_some, if_true, Bool.false_eq_true, if_false]
  have := gMade_len h
  rw [i_compound_eq (gMade_mem h) (by omega) (by omega) hk]
  rfl
theorem s_CompoundOf_eq {k : Nat} {l : List Sign} (hs : ∀ s ∈ l, smallS s) (hk : 2000010 ≤ k) : X.s_CompoundOf k l = some (vCmpd l) := by
  unfold X.s_CompoundOf vCmpd
  rw [s_cmGood_eq hs hk]
  cases h : gMade l <;> simp only [Bool.true_and, Bool.false_and, Bool.and_true, Bool.and_false, Bool.and_self, Bool.not_true, Bool.not_false, cond_true, cond_false, bind_some, if_true, Bool.false_eq_true, if_false]
  have := gMade_len h
  rw [s_cmOf_eq (gMade_mem h) (by omega) (by omega)]
  rfl
/-! ### Compounds that are alike -/
end Go.Proofs.XC
