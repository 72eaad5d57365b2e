/- Plain laws of the plain functions: no program, no memory. By AI agents; no person has read it. -/
import Derived.Test.YtjjhlccjfdcfcaaGreatDoorPZ7
import Derived.Test.YtjjhlccjfdcfcaaGreatDoorPW2
import Derived.Test.YtjjhlccjfdcfcaaGreatDoorPW3
set_option linter.unusedVariables false
set_option linter.unusedSimpArgs false
set_option maxRecDepth 100000
set_option maxHeartbeats 40000000
namespace Go.Proofs.XC
open Go Go.RowKit
/-! ### Folds with an index; the loops that make them -/
theorem some_len {α : Type} {L : List α} {i : Nat} {x : α} (h : L[i]? = some x) : i < L.length := by
  rcases Nat.lt_or_ge i L.length with h1 | h1
  · exact h1
  · rw [List.getElem?_eq_none h1] at h; cases h
theorem decL {i n : Nat} (h : i < n) : decide ((i : Int) < (n : Int)) = true := by simp; omega
theorem decE (n : Nat) : decide ((n : Int) < (n : Int)) = false := by simp
/-! ### The table of distances -/
theorem appI {l : List Int} {x : Int} (h : l.length ≤ 1000000) : appG (eI .i64) l [x] = some (l ++ [x]) := by
  unfold appG
  have hby : (eI .i64).by_ = 8 := rfl
  rw [if_pos]
  rw [hby]
  simp only [List.length_cons, List.length_nil]
  omega
/-! #### The sign in the middle -/
/-! #### The pair farthest apart -/
end Go.Proofs.XC
