/- Plain laws of the plain functions: no program, no memory. By AI agents; no person has read it. -/
import Derived.Test.YtjjhlccjfdcfcaaGreatDoorPZ7
set_option linter.unusedVariables false
set_option linter.unusedSimpArgs false
set_option maxRecDepth 100000
set_option maxHeartbeats 40000000
namespace Go.Proofs.XC
open Go Go.RowKit
/-! ### Distances are the same both ways, and 0 for what is the same -/
def isN (h : Hand) : Prop := ∃ x, gHand x = true ∧ h = nH x
theorem isN_good {h : Hand} (hn : isN h) : gHand h = true := by
  obtain ⟨x, gx, rfl⟩ := hn
  exact gHand_nH gx
theorem nS_isN {s : Sign} (g : gSign s = true) : isN (nS s).Main ∧ ((nS s).Two = true → isN (nS s).Other) ∧ ((nS s).Two = false → (nS s).Other = zHand) := by
  have gm := gSign_main g
  unfold nS
  cases h : s.Two
  · simp only [if_true]
    exact ⟨⟨_, gm, rfl⟩, by simp, by simp⟩
  · have go := (gSign_other g h).1
    rw [if_neg (by simp)]
    split
    · exact ⟨⟨_, go, rfl⟩, fun _ => ⟨_, gm, rfl⟩, fun h => by cases h⟩
    · exact ⟨⟨_, gm, rfl⟩, fun _ => ⟨_, go, rfl⟩, fun h => by cases h⟩
end Go.Proofs.XC
