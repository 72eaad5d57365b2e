/- Plain laws of the plain functions: no program, no memory. By AI agents; no person has read it. -/
import Derived.Test.YtjjhlccjfdcfcaaGreatDoorPZ7
import Derived.Test.YtjjhlccjfdcfcaaGreatDoorPW2
import Derived.Test.YtjjhlccjfdcfcaaGreatDoorPW3
set_option linter.unusedVariables false
set_option linter.unusedSimpArgs false
set_option maxRecDepth 100000
set_option maxHeartbeats 40000000
namespace Go.Proofs.XC
open Go Go.RowKit
/-! ### Compounds -/
def cmpd (l : List Sign) : List Sign := (l.take (l.length - 1)).map redS ++ l.drop (l.length - 1)
theorem cmpd_len (l : List Sign) : (cmpd l).length = l.length := by
  unfold cmpd
  simp
theorem cmpd_good {l : List Sign} (hg : ∀ s ∈ l, gSign s = true) : ∀ s ∈ cmpd l, gSign s = true := by
  intro s hs
  unfold cmpd at hs
  rcases List.mem_append.1 hs with h | h
  · obtain ⟨x, hx, rfl⟩ := List.mem_map.1 h
    exact gSign_red (hg x (List.mem_of_mem_take hx))
  · exact hg s (List.mem_of_mem_drop h)
theorem mapG_cut (n : Nat) : ∀ (l : List Sign) (j : Nat), n = j + l.length → mapG (fun j x => if j + 1 < n then redS x else x) l j = (l.take (l.length - 1)).map redS ++ l.drop (l.length - 1)
  | [], j, _ => rfl
  | x :: l, j, h => by
    simp only [List.length_cons] at h
    rw [mapG]
    cases l with
    | nil =>
      simp only [List.length_nil] at h
      have : ¬ j + 1 < n := by omega
      simp [this, mapG]
    | cons y l =>
      have : j + 1 < n := by simp only [List.length_cons] at h; omega
      rw [if_pos this, mapG_cut n (y :: l) (j + 1) (by simp only [List.length_cons] at h ⊢; omega)]
      simp
theorem i_compound_eq {k : Nat} {l : List Sign} (hg : ∀ s ∈ l, gSign s = true) (h1 : 1 ≤ l.length) (hl : l.length ≤ 1000) (hk : 200 ≤ k) : X.i_compound k l = some (cmpd l) := by
  have hc : X.slices_Clone_i_Sign_i_Sign l = some l := by
    unfold X.slices_Clone_i_Sign_i_Sign appG
    have hb : nSign.by_ = 232 := rfl
    rw [if_pos (by rw [hb]; simp; omega)]
    rfl
  have hw : wr ((l.length : Int) - 1) = ((l.length - 1 : Nat) : Int) := by rw [wr_of (by omega) (by omega)]; omega
  unfold X.i_compound
  rw [hc, bind_some, hw, set_gen redS l (by omega) (by omega) fun i y s hi hy hs => ?_]
  · rfl
  · rw [getI_of hs, bind_some, i_reduced_eq (hg y (List.mem_of_getElem? hy)) hk]
    simp only [bind_some, Int.toNat_natCast]
theorem s_cmOf_eq {k : Nat} {l : List Sign} (hg : ∀ s ∈ l, gSign s = true) (hl : l.length ≤ 1000) (hk : 200 ≤ k) : X.s_cmOf k l = some (cmpd l) := by
  unfold X.s_cmOf
  rw [mapG_gen (e := nSign) (fun j x => if j + 1 < l.length then redS x else x) (by decide) l 0 [] (by simp; omega) fun i x s hx => ?_, mapG_cut l.length l 0 (by omega)]
  · rfl
  · have hlt := lt_get hx
    rw [Nat.zero_add, wr_suc (by omega)]
    by_cases h : i + 1 < l.length
    · have : decide (((i + 1 : Nat) : Int) < (l.length : Int)) = true := by simp; omega
      rw [this, cond_true, s_reduce_eq (hg x (List.mem_of_getElem? hx)) hk, bind_some, if_pos h]
    · have : decide (((i + 1 : Nat) : Int) < (l.length : Int)) = false := by simp; omega
      rw [this, cond_false, if_neg h]
theorem gMade_len {l : List Sign} (h : gMade l = true) : 2 ≤ l.length ∧ l.length ≤ 4 := by
  unfold gMade at h
  simp only [Bool.and_eq_true, decide_eq_true_eq] at h
  exact h.1
def vCmpd (l : List Sign) : List Sign × Bool := if gMade l then (cmpd l, true) else ([], false)
theorem s_CompoundOf_eq {k : Nat} {l : List Sign} (hs : ∀ s ∈ l, smallS s) (hk : 2000010 ≤ k) : X.s_CompoundOf k l = some (vCmpd l) := by
  unfold X.s_CompoundOf vCmpd
  rw [s_cmGood_eq hs hk]
  cases h : gMade l <;> simp only [Bool.true_and, Bool.false_and, Bool.and_true, Bool.and_false, Bool.and_self, Bool.not_true, Bool.not_false, cond_true, cond_false, bind_some, if_true, Bool.false_eq_true, if_false]
  have := gMade_len h
  rw [s_cmOf_eq (gMade_mem h) (by omega) (by omega)]
  rfl
/-! ### Compounds that are alike -/
theorem rangeTG {α β : Type} {body : Int → α → Unit → Option (Unit ⊕ (β ⊕ Unit))} {fin : Unit → Option (β ⊕ Unit)} (b : β) (p : Nat → α → Bool) (l : List α) (h1 : ∀ (i : Nat) x, l[i]? = some x → body (i : Int) x () = some (if p i x then .inl () else .inr (.inl b))) (h2 : fin () = some (.inr ())) {F : Unit → Option β} :
    orEl (rangeM body fin l 0 ()) (fun r => some r) F = if allIx p l 0 then F () else some b := by
  have h := ranM (body := body) (fin := fin) (fun i x (_ : Unit) => if p i x then Sum.inl () else Sum.inr (Sum.inl b)) (fun _ => Sum.inr ()) (fun _ _ => True) l 0 () trivial (fun i x s hx _ => by have := h1 i x hx; rw [Nat.zero_add]; exact this) (fun _ _ => h2) (fun _ _ _ _ _ _ _ => trivial)
  rw [h, foldS_test]
  cases allIx p l 0 <;> rfl
def pAl (b : List Sign) (i : Nat) (x : Sign) : Bool := match b[i]? with | some y => decide (nS x = nS y) | none => false
def alk (a b : List Sign) : Bool := decide (a.length = b.length) && allIx (pAl b) a 0
def vAlike (a b : List Sign) : Bool × Bool := if gMade a && gMade b then (alk (cmpd a) (cmpd b), true) else (false, false)
theorem i_Alike_eq {k : Nat} {a b : List Sign} (ha : ∀ s ∈ a, smallS s) (hb : ∀ s ∈ b, smallS s) (hk : 200 ≤ k) : X.i_CompoundsAlike k a b = some (vAlike a b) := by
  unfold X.i_CompoundsAlike vAlike
  rw [i_isMade_eq ha (by omega), i_isMade_eq hb (by omega)]
  cases h1 : gMade a <;> cases h2 : gMade b <;> simp only [Bool.true_and, Bool.false_and, Bool.and_true, Bool.and_false, Bool.and_self, Bool.not_true, Bool.not_false, cond_true, cond_false, bind_some, if_true, Bool.false_eq_true, if_false]
  have l1 := gMade_len h1
  have l2 := gMade_len h2
  rw [i_compound_eq (gMade_mem h1) (by omega) (by omega) hk, i_compound_eq (gMade_mem h2) (by omega) (by omega) hk]
  have g1 := cmpd_good (gMade_mem h1)
  have g2 := cmpd_good (gMade_mem h2)
  generalize cmpd a = x at g1
  generalize cmpd b = y at g2
  unfold X.slices_EqualFunc_i_Sign_i_Sign_i_Sign_i_Sign alk
  simp only [bind_some]
  by_cases hl : x.length = y.length
  · have e : ((x.length : Int) != (y.length : Int)) = false := by simp [hl]
    rw [e, cond_false, rangeTG false (pAl y) x (fun i s hs => ?_) rfl]
    · simp only [hl, decide_true, Bool.true_and]
      cases allIx (pAl y) x 0 <;> rfl
    · obtain ⟨u, hu⟩ : ∃ u, y[i]? = some u := ⟨_, List.getElem?_eq_getElem (by rw [← hl]; exact lt_get hs)⟩
      unfold X.i_CompoundsAlike_1
      rw [getI_of hu, bind_some, i_normal_eq (g1 s (List.mem_of_getElem? hs)) (by omega), bind_some, i_normal_eq (g2 u (List.mem_of_getElem? hu)) (by omega), bind_some, bind_some, qSign_iff]
      unfold pAl
      rw [hu]
      by_cases h : nS s = nS u <;> simp [h]
  · have e : ((x.length : Int) != (y.length : Int)) = true := by simp; omega
    rw [e, cond_true]
    simp [hl]
theorem s_Alike_eq {k : Nat} {a b : List Sign} (ha : ∀ s ∈ a, smallS s) (hb : ∀ s ∈ b, smallS s) (hk : 2000010 ≤ k) : X.s_CompoundsAlike k a b = some (vAlike a b) := by
  unfold X.s_CompoundsAlike vAlike
  rw [s_CompoundOf_eq ha hk, s_CompoundOf_eq hb hk, bind_some, bind_some]
  unfold vCmpd
  cases h1 : gMade a <;> cases h2 : gMade b <;> simp only [Bool.true_and, Bool.false_and, Bool.and_true, Bool.and_false, Bool.and_self, Bool.not_true, Bool.not_false, cond_true, cond_false, bind_some, if_true, Bool.false_eq_true, if_false]
  have g1 := cmpd_good (gMade_mem h1)
  have g2 := cmpd_good (gMade_mem h2)
  generalize cmpd a = x at g1
  generalize cmpd b = y at g2
  unfold alk
  by_cases hl : x.length = y.length
  · have e : ((x.length : Int) != (y.length : Int)) = false := by simp [hl]
    rw [e, cond_false, rangeTG (false, true) (pAl y) x (fun i s hs => ?_) rfl]
    · simp only [hl, decide_true, Bool.true_and]
      cases allIx (pAl y) x 0 <;> rfl
    · obtain ⟨u, hu⟩ : ∃ u, y[i]? = some u := ⟨_, List.getElem?_eq_getElem (by rw [← hl]; exact lt_get hs)⟩
      rw [s_noForm_eq (g1 s (List.mem_of_getElem? hs)) (by omega), bind_some, getI_of hu, bind_some, s_noForm_eq (g2 u (List.mem_of_getElem? hu)) (by omega), bind_some, qSign_iff]
      unfold pAl
      rw [hu]
      by_cases h : nS s = nS u <;> simp [h]
  · have e : ((x.length : Int) != (y.length : Int)) = true := by simp; omega
    rw [e, cond_true]
    simp [hl]
end Go.Proofs.XC
