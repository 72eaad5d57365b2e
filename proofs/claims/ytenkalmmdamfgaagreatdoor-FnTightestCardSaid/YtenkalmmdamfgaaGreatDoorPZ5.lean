/- Plain laws of the plain functions: no program, no memory. By AI agents; no person has read it. -/
import Derived.Test.YtenkalmmdamfgaaGreatDoorPZ4
import Derived.Test.YtenkalmmdamfgaaGreatDoorPY
set_option linter.unusedVariables false
set_option linter.unusedSimpArgs false
set_option maxRecDepth 100000
set_option maxHeartbeats 40000000
namespace Go.Proofs.XC
open Go Go.RowKit
/-! ### The constraint that is broken most -/
theorem count_gen {α : Type} (p : α → Bool) {body : Int → α → Int → Option (Int ⊕ Int)} : ∀ (l : List α) (j i : Nat) (n : Nat), n + l.length ≤ 4000000 → (∀ (j : Int) x (n : Int), x ∈ l → body j x n = some (.inl (if p x then wr (n + 1) else n))) →
    rangeM body (fun n => some n) l j (n : Int) = some (((n + (ixs p l i).length : Nat) : Int)) := by
  intro l
  induction l with
  | nil => intro j i n _ _; simp [rangeM, ixs]
  | cons x l ih =>
    intro j i n hn hb
    rw [rangeM_cons, hb _ x _ (List.mem_cons_self ..), bind_some]
    simp only [List.length_cons] at hn
    have hb' : ∀ (j : Int) x (n : Int), x ∈ l → body j x n = some (.inl (if p x then wr (n + 1) else n)) := fun j y n hy => hb j y n (List.mem_cons_of_mem _ hy)
    unfold ixs
    by_cases h : p x = true
    · simp only [h, if_true, wr_suc (show n ≤ 4611686018427387904 by omega)]
      rw [ih (j + 1) (i + 1) (n + 1) (by omega) hb']
      congr 1
      simp only [List.length_cons]
      omega
    · simp only [h, Bool.false_eq_true, if_false]
      exact ih (j + 1) (i + 1) n (by omega) hb'
theorem s_ruAll_eq (l : List Constraint) : X.s_ruAll l = some (l.all gCon && decide (l.length ≤ 10)) := by
  unfold X.s_ruAll
  rw [all_range gCon l fun x hx => s_ruGood_eq x]
  cases l.all gCon
  · rfl
  · simp
    omega
theorem i_allC_eq (l : List Constraint) (F : Constraint → Option Bool) (p : Constraint → Bool) (hF : ∀ x ∈ l, F x = some (p x)) : X.i_allOf_i_Constraint l F = some (l.all p) := by
  have hc : X.slices_ContainsFunc_i_Constraint_i_Constraint l (X.i_allOf_i_Constraint_1 F) = some (l.any fun x => !(p x)) := by
    unfold X.slices_ContainsFunc_i_Constraint_i_Constraint X.slices_IndexFunc_i_Constraint_i_Constraint
    exact anyF_eq _ _ l fun x hx => by unfold X.i_allOf_i_Constraint_1; rw [hF x hx]; rfl
  unfold X.i_allOf_i_Constraint
  rw [hc]
  simp only [bind_some]
  congr 1
  rw [List.any_eq_not_all_not]
  simp
theorem i_areC_eq (l : List Constraint) : X.i_areConstraints l = some (l.all gCon && decide (l.length ≤ 10)) := by
  unfold X.i_areConstraints
  rw [i_allC_eq l _ gCon fun x _ => i_IsConstraint_eq x]
  have e : decide ((l.length : Int) ≤ 10) = decide (l.length ≤ 10) := by rw [Bool.eq_iff_iff]; simp; omega
  rw [e]
  cases decide (l.length ≤ 10) <;> cases l.all gCon <;> rfl
def mostB (l : List Sign) (j : Int) (x : Constraint) : Int × Int → Option ((Int × Int) ⊕ (Int × Int)) := fun s => bif decide (((brk x l).length : Int) > s.2) then some (.inl (j, ((brk x l).length : Int))) else some (.inl s)
theorem mostB_some (l : List Sign) : ∀ (c : List Constraint) (j : Nat) (s : Int × Int), ∃ r, rangeM (mostB l) (fun s => some s) c j s = some r
  | [], j, s => ⟨s, rfl⟩
  | x :: c, j, s => by
    rw [rangeM_cons]
    unfold mostB
    cases decide (((brk x l).length : Int) > s.2)
    · exact mostB_some l c (j + 1) s
    · exact mostB_some l c (j + 1) _
def vMost (l : List Sign) (c : List Constraint) : Option (Int × Int × Bool) :=
  if l.all gSign && decide (l.length ≤ 20) && (c.all gCon && decide (c.length ≤ 10)) && decide (c.length ≠ 0) then (rangeM (mostB l) (fun s => some s) c 0 (0, -1)).bind fun s => some (s.1, s.2, true) else some (0, 0, false)
theorem i_Most_eq {k : Nat} {l : List Sign} (c : List Constraint) (hs : ∀ s ∈ l, smallS s) (hl : l.length ≤ 1048576) (hk : 10 ≤ k) : X.i_MostBroken k l c = vMost l c := by
  unfold X.i_MostBroken vMost
  rw [i_areSigns_eq hs hk, i_areC_eq]
  have e : decide ((l.length : Int) ≤ 20) = decide (l.length ≤ 20) := by rw [Bool.eq_iff_iff]; simp; omega
  have e2 : ((c.length : Int) == 0) = decide (c.length = 0) := by rw [beq_dec, Bool.eq_iff_iff]; simp
  rw [e, e2]
  by_cases h0 : c.length = 0
  · simp [h0]
  simp only [h0, decide_false, cond_false, bind_some, ne_eq, not_false_eq_true, decide_true, Bool.and_true]
  cases h1 : l.all gSign <;> cases h2 : decide (l.length ≤ 20) <;> simp only [Bool.true_and, Bool.false_and, Bool.and_true, Bool.and_false, Bool.not_true, Bool.not_false, cond_true, cond_false, bind_some, if_true, Bool.false_eq_true, if_false]
  cases h3 : (c.all gCon && decide (c.length ≤ 10)) <;> simp only [Bool.not_true, Bool.not_false, cond_true, cond_false, if_true, Bool.false_eq_true, if_false]
  rw [rangeM_congr (b2 := mostB l) c 0 _ fun i x s hx => ?_]
  have hx' : gCon x = true := by
    simp only [Bool.and_eq_true, List.all_eq_true] at h3
    exact h3.1 x (List.mem_of_getElem? hx)
  have hv : vBreak l x = (brk x l, true) := by unfold vBreak; simp [h1, h2, hx']
  rw [i_BreakersOf_eq x hs hl hk, hv]
  rfl
theorem s_Most_eq {k : Nat} {l : List Sign} (c : List Constraint) (hs : ∀ s ∈ l, smallS s) (hl : l.length ≤ 1048576) (hk : 2000010 ≤ k) : X.s_MostBroken k l c = vMost l c := by
  unfold X.s_MostBroken vMost
  rw [s_paList_eq hs hk, s_ruAll_eq]
  have e2 : ((c.length : Int) == 0) = decide (c.length = 0) := by rw [beq_dec, Bool.eq_iff_iff]; simp
  rw [e2]
  cases h1 : l.all gSign <;> cases h2 : decide (l.length ≤ 20) <;> simp only [Bool.true_and, Bool.false_and, Bool.and_true, Bool.and_false, Bool.not_true, Bool.not_false, cond_true, cond_false, bind_some, if_true, Bool.false_eq_true, if_false]
  cases h3 : (c.all gCon && decide (c.length ≤ 10)) <;> simp only [Bool.true_and, Bool.false_and, Bool.not_true, Bool.not_false, cond_true, cond_false, if_true, Bool.false_eq_true, if_false]
  by_cases h0 : c.length = 0
  · simp [h0]
  simp only [h0, decide_false, cond_false, bind_some, ne_eq, not_false_eq_true, decide_true, if_true]
  rw [rangeM_congr (b2 := mostB l) c 0 _ fun i x s hx => ?_]
  have hg : ∀ s ∈ l, gSign s = true := by simpa using h1
  have hc := count_gen (fun s => !(keepC x s)) (body := fun (j17 : Int) (x18 : Sign) n14 => (Option.bind (X.s_ruKeeps k x18 x) fun v11_2 => (bif (!v11_2) then some (.inl (wr (n14 + 1))) else some (.inl n14)))) l 0 0 0 (by omega) fun j y n hy => by
    rw [s_kept_eq x (hg y hy) (by omega)]
    simp only [bind_some]
    cases keepC x y <;> simp
  have e0 : ((0 : Nat) : Int) = 0 := rfl
  rw [e0] at hc
  rw [hc, bind_some, Nat.zero_add]
  rfl
theorem vMost_some (l : List Sign) (c : List Constraint) : ∃ v, vMost l c = some v := by
  unfold vMost
  split
  · obtain ⟨r, hr⟩ := mostB_some l c 0 (0, -1)
    rw [hr]
    exact ⟨_, rfl⟩
  · exact ⟨_, rfl⟩
end Go.Proofs.XC
