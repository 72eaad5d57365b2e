/- Plain laws of the plain functions: no program, no memory. By AI agents; no person has read it. -/
import Derived.Test.YtjjhlccjfdcfcaaGreatDoorPL4
set_option linter.unusedVariables false
set_option linter.unusedSimpArgs false
set_option maxRecDepth 100000
set_option maxHeartbeats 40000000
namespace Go.Proofs.XC
open Go Go.RowKit
/-! ### Lists -/
theorem range_all {α σ ρ : Type} {body : Int → α → σ → Option (σ ⊕ ρ)} {fin : σ → Option ρ} {s : σ} : ∀ (l : List α) (j : Nat), (∀ (i : Nat) x, l[i]? = some x → body ((j + i : Nat) : Int) x s = some (.inl s)) → rangeM body fin l j s = fin s
  | [], j, _ => rfl
  | x :: l, j, h => by
    have h0 := h 0 x rfl
    rw [Nat.add_zero] at h0
    rw [rangeM_cons, h0]
    exact range_all l (j + 1) fun i y hy => by
      rw [Nat.add_assoc, Nat.add_comm 1 i]
      exact h (i + 1) y hy
theorem range_all0 {α σ ρ : Type} {body : Int → α → σ → Option (σ ⊕ ρ)} {fin : σ → Option ρ} {s : σ} (l : List α) (h : ∀ (i : Nat) x, l[i]? = some x → body (i : Int) x s = some (.inl s)) : rangeM body fin l 0 s = fin s := range_all l 0 fun i x hx => by rw [Nat.zero_add]; exact h i x hx
end Go.Proofs.XC
