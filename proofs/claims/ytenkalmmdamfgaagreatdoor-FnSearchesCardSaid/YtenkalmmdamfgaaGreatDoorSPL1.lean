/- Plain laws of the plain functions: no program, no memory. By AI agents; no person has read it. -/
import Derived.Test.YtenkalmmdamfgaaGreatDoorSPK3
set_option linter.unusedVariables false
set_option linter.unusedSimpArgs false
set_option maxRecDepth 100000
set_option maxHeartbeats 40000000
namespace Go.Proofs.XC
open Go Go.RowKit
/-! ### Two hands are a sign -/
theorem big_eq (c d : List Int) : ∃ v, X.l_big c d = some v := by
  unfold X.l_big
  cases decide ((List.length c : Int) > 1048576)
  · exact ⟨_, rfl⟩
  · exact ⟨_, rfl⟩
theorem okB8_of {c : List Int} (h : okL okY c) : okB8 c := fun x hx => h.2 x hx
theorem bindB {α β : Type} {o : Option α} {v : α} {F : α → Option β} {r : Option β} (h : o = some v) (hF : F v = r) : Option.bind o F = r := by
  rw [h]
  exact hF
theorem orElB {ρ σ β : Type} {o : Option (ρ ⊕ σ)} {v : σ} {G : ρ → Option β} {F : σ → Option β} {r : Option β} (h : o = some (.inr v)) (hF : F v = r) : orEl o G F = r := by
  rw [h]
  exact hF
end Go.Proofs.XC
