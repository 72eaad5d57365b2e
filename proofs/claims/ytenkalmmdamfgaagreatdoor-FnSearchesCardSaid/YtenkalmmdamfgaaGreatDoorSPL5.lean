/- Plain laws of the plain functions: no program, no memory. By AI agents; no person has read it. -/
import Derived.Test.YtenkalmmdamfgaaGreatDoorSPL4
set_option linter.unusedVariables false
set_option linter.unusedSimpArgs false
set_option maxRecDepth 100000
set_option maxHeartbeats 40000000
namespace Go.Proofs.XC
open Go Go.RowKit
/-! ### Lists -/
theorem range_all {α σ ρ : Type} {body : Int → α → σ → Option (σ ⊕ ρ)} {fin : σ → Option ρ} {s : σ} : ∀ (l : List α) (j : Nat), (∀ (i : Nat) x, l[i]? = some x → body ((j + i : Nat) : Int) x s = some (.inl s)) → rangeM body fin l j s = fin s
  | [], j, _ => rfl
  | x :: l, j, h => by
    have h0 := h 0 x rfl
    rw [Nat.add_zero] at h0
    rw [rangeM_cons, h0]
    exact range_all l (j + 1) fun i y hy => by
      rw [Nat.add_assoc, Nat.add_comm 1 i]
      exact h (i + 1) y hy
theorem range_all0 {α σ ρ : Type} {body : Int → α → σ → Option (σ ⊕ ρ)} {fin : σ → Option ρ} {s : σ} (l : List α) (h : ∀ (i : Nat) x, l[i]? = some x → body (i : Int) x s = some (.inl s)) : rangeM body fin l 0 s = fin s := range_all l 0 fun i x hx => by rw [Nat.zero_add]; exact h i x hx
theorem sameInts_refl (l : List Int) : X.l_sameInts l l = some true := by
  unfold X.l_sameInts
  rw [bne_self_eq_false, cond_false, range_all0 l]
  · rfl
  · intro i x hx
    rw [getI_of hx, bind_some, bne_self_eq_false, cond_false]
theorem has_key : ∀ (z : Int) (l : List Int) (j : Nat), orEl (rangeM (fun (j2 : Int) (x3 : Int) (_ : Unit) => (bif (x3 == z) then some (.inr (.inl true)) else some (.inl ()))) (fun _ => some (.inr ())) l j ()) (fun r => some r) (fun (_ : Unit) => some false) = some (decide (z ∈ l)) := by
  intro z l
  induction l with
  | nil => intro j; rfl
  | cons x l ih =>
    intro j
    rw [rangeM_cons]
    by_cases h : x = z
    · subst h
      rw [beq_self_eq_true]
      simp [orEl]
    · have : (x == z) = false := beq_eq_false_iff_ne.2 h
      rw [this, cond_false]
      have e : decide (z ∈ x :: l) = decide (z ∈ l) := by
        rw [decide_eq_decide, List.mem_cons]
        exact ⟨fun h2 => h2.resolve_left fun h3 => h h3.symm, .inr⟩
      rw [e]
      exact ih (j + 1)
theorem pIn_eq (z : Int) (l : List Int) : X.l_pIn l z = some (decide (z ∈ l)) := has_key z l 0
theorem mem_ixs {α : Type} {p : α → Bool} : ∀ {l : List α} {j : Nat} {z : Int}, z ∈ ixs p l j ↔ ∃ (q : Nat) (x : α), l[q]? = some x ∧ p x = true ∧ z = ((j + q : Nat) : Int)
  | [], j, z => by simp [ixs]
  | x :: l, j, z => by
    have ih := mem_ixs (p := p) (l := l) (j := j + 1) (z := z)
    unfold ixs
    constructor
    · intro h
      have key : z ∈ ixs p l (j + 1) → ∃ (q : Nat) (y : α), (x :: l)[q]? = some y ∧ p y = true ∧ z = ((j + q : Nat) : Int) := fun h => by
        obtain ⟨q, y, h1, h2, h3⟩ := ih.1 h
        exact ⟨q + 1, y, by simpa using h1, h2, by rw [h3]; congr 1; omega⟩
      split at h
      · rename_i hp
        rcases List.mem_cons.1 h with h | h
        · exact ⟨0, x, rfl, hp, by rw [h, Nat.add_zero]⟩
        · exact key h
      · exact key h
    · rintro ⟨q, y, h1, h2, h3⟩
      cases q with
      | zero =>
        simp at h1
        subst h1
        rw [if_pos h2, h3]
        simp
      | succ q =>
        have : z ∈ ixs p l (j + 1) := ih.2 ⟨q, y, by simpa using h1, h2, by rw [h3]; congr 1; omega⟩
        split
        · exact List.mem_cons_of_mem _ this
        · exact this
theorem at_ixs {α : Type} {p : α → Bool} {l : List α} {i : Nat} {x : α} (h : l[i]? = some x) : decide ((i : Int) ∈ ixs p l 0) = p x := by
  cases hp : p x
  · rw [decide_eq_false_iff_not, mem_ixs]
    rintro ⟨q, y, h1, h2, h3⟩
    obtain rfl : i = q := by omega
    rw [h] at h1
    cases h1
    rw [hp] at h2
    cases h2
  · rw [decide_eq_true_iff, mem_ixs]
    exact ⟨i, x, h, hp, by rw [Nat.zero_add]⟩
end Go.Proofs.XC
