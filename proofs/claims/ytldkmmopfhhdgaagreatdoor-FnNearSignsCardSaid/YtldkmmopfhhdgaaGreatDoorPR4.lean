/- Plain laws of the plain functions: no program, no memory. By AI agents; no person has read it. -/
import Derived.Test.YtldkmmopfhhdgaaGreatDoorPR3
set_option linter.unusedVariables false
set_option linter.unusedSimpArgs false
set_option maxRecDepth 100000
set_option maxHeartbeats 40000000
namespace Go.Proofs.XC
open Go Go.RowKit
/-! ### Rows of rows of numbers: are they one, marked, held -/
/-! #### Bounds -/
theorem prsG_bnd {p : Sign → Sign → Bool} {L : List Sign} (hL : L.length ≤ 16) : (prsG p L).length ≤ 1000 ∧ ∀ r ∈ prsG p L, r.length ≤ 1000 := by
  have key : (prsG p L).length ≤ (0 + L.length) * 16 ∧ ∀ r ∈ prsG p L, r.length ≤ 1000 := by
    unfold prsG
    refine rng_inv (σ := List (List Int)) (fun i x acc => rng (fun k y acc => if p x y then acc ++ [[(i : Int), (k : Int)]] else acc) (L.drop (i + 1)) (i + 1) acc) (fun i acc => acc.length ≤ i * 16 ∧ ∀ r ∈ acc, r.length ≤ 1000) L 0 [] (fun i x acc _ hi hv => ?_) ⟨by simp, by simp⟩
    · have := rng_inv (σ := List (List Int)) (fun k y acc => if p x y then acc ++ [[(i : Int), (k : Int)]] else acc) (fun k (acc : List (List Int)) => acc.length ≤ i * 16 + k ∧ ∀ r ∈ acc, r.length ≤ 1000) (L.drop (i + 1)) (i + 1) acc (fun k y acc _ hk hv => by
        split
        · refine ⟨by rw [List.length_append, List.length_singleton]; omega, fun r hr => ?_⟩
          rcases List.mem_append.1 hr with h | h
          · exact hv.2 r h
          · rw [List.mem_singleton] at h
            rw [h]
            simp
        · exact ⟨by omega, hv.2⟩) ⟨by omega, hv.2⟩
      rw [List.length_drop] at this
      exact ⟨by omega, this.2⟩
  exact ⟨by omega, key.2⟩
def vTab (l : List Sign) : List (List Int) × Bool := if l.all gSign && decide (l.length ≤ 20) then (tab l, true) else ([], false)
theorem i_Tab_eq {k : Nat} {l : List Sign} (hs : ∀ s ∈ l, smallS s) (hk : 100 ≤ k) : X.i_DistanceTable k l = some (vTab l) := i_Table_eq hs hk
theorem s_Tab_eq {k : Nat} {l : List Sign} (hs : ∀ s ∈ l, smallS s) (hk : 2000010 ≤ k) : X.s_DistanceTable k l = some (vTab l) := s_Table_eq hs hk
end Go.Proofs.XC
