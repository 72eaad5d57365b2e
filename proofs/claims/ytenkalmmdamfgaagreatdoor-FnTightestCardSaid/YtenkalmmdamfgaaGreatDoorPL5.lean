/- Plain laws of the plain functions: no program, no memory. By AI agents; no person has read it. -/
import Derived.Test.YtenkalmmdamfgaaGreatDoorPL4
set_option linter.unusedVariables false
set_option linter.unusedSimpArgs false
set_option maxRecDepth 100000
set_option maxHeartbeats 40000000
namespace Go.Proofs.XC
open Go Go.RowKit
/-! ### Lists -/
theorem arg_best {α : Type} {c : Int → Int → Bool} (h0 : ∀ a, c a a = false) (h1 : ∀ a b d, c a b = true → c a d = false → c b d = false) (h2 : ∀ a b d, c a b = false → c b d = false → c a d = false) (f : α → Int) : ∀ (l : List α) (j : Nat) (s : Int × Int),
    (∀ x ∈ l, c (f x) (arg c f l j s).2 = false) ∧ c s.2 (arg c f l j s).2 = false ∧ (arg c f l j s = s ∨ ∃ (i : Nat) (x : α), l[i]? = some x ∧ arg c f l j s = (((j + i : Nat) : Int), f x))
  | [], j, s => ⟨fun x hx => (by cases hx), h0 _, .inl rfl⟩
  | x :: l, j, s => by
    rw [arg]
    cases h : c (f x) s.2
    · obtain ⟨a1, a2, a3⟩ := arg_best h0 h1 h2 f l (j + 1) s
      simp only [Bool.false_eq_true, if_false]
      refine ⟨fun y hy => ?_, a2, ?_⟩
      · rcases List.mem_cons.1 hy with rfl | hy
        · exact h2 _ _ _ h a2
        · exact a1 y hy
      · rcases a3 with a3 | ⟨i, y, hy, a3⟩
        · exact .inl a3
        · exact .inr ⟨i + 1, y, hy, by rw [a3, Nat.add_assoc, Nat.add_comm 1 i]⟩
    · obtain ⟨a1, a2, a3⟩ := arg_best h0 h1 h2 f l (j + 1) ((j : Int), f x)
      simp only [if_true]
      refine ⟨fun y hy => ?_, h1 _ _ _ h a2, ?_⟩
      · rcases List.mem_cons.1 hy with rfl | hy
        · exact a2
        · exact a1 y hy
      · rcases a3 with a3 | ⟨i, y, hy, a3⟩
        · exact .inr ⟨0, x, rfl, a3⟩
        · exact .inr ⟨i + 1, y, hy, by rw [a3, Nat.add_assoc, Nat.add_comm 1 i]⟩
theorem range_all {α σ ρ : Type} {body : Int → α → σ → Option (σ ⊕ ρ)} {fin : σ → Option ρ} {s : σ} : ∀ (l : List α) (j : Nat), (∀ (i : Nat) x, l[i]? = some x → body ((j + i : Nat) : Int) x s = some (.inl s)) → rangeM body fin l j s = fin s
  | [], j, _ => rfl
  | x :: l, j, h => by
    have h0 := h 0 x rfl
    rw [Nat.add_zero] at h0
    rw [rangeM_cons, h0]
    exact range_all l (j + 1) fun i y hy => by
      rw [Nat.add_assoc, Nat.add_comm 1 i]
      exact h (i + 1) y hy
theorem range_all0 {α σ ρ : Type} {body : Int → α → σ → Option (σ ⊕ ρ)} {fin : σ → Option ρ} {s : σ} (l : List α) (h : ∀ (i : Nat) x, l[i]? = some x → body (i : Int) x s = some (.inl s)) : rangeM body fin l 0 s = fin s := range_all l 0 fun i x hx => by rw [Nat.zero_add]; exact h i x hx
theorem has_key : ∀ (z : Int) (l : List Int) (j : Nat), orEl (rangeM (fun (j2 : Int) (x3 : Int) (_ : Unit) => (bif (x3 == z) then some (.inr (.inl true)) else some (.inl ()))) (fun _ => some (.inr ())) l j ()) (fun r => some r) (fun (_ : Unit) => some false) = some (decide (z ∈ l)) := by
  intro z l
  induction l with
  | nil => intro j; rfl
  | cons x l ih =>
    intro j
    rw [rangeM_cons]
    by_cases h : x = z
    · subst h
      rw [beq_self_eq_true]
      simp [orEl]
    · have : (x == z) = false := beq_eq_false_iff_ne.2 h
      rw [this, cond_false]
      have e : decide (z ∈ x :: l) = decide (z ∈ l) := by
        rw [decide_eq_decide, List.mem_cons]
        exact ⟨fun h2 => h2.resolve_left fun h3 => h h3.symm, .inr⟩
      rw [e]
      exact ih (j + 1)
end Go.Proofs.XC
