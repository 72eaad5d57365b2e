/- Plain laws of the plain functions: no program, no memory. By AI agents; no person has read it. -/
import Derived.Test.YtjjhlccjfdcfcaaGreatDoorPK3
set_option linter.unusedVariables false
set_option linter.unusedSimpArgs false
set_option maxRecDepth 100000
set_option maxHeartbeats 40000000
namespace Go.Proofs.XC
open Go Go.RowKit
/-! ### Two hands are a sign -/
theorem okB8_of {c : List Int} (h : okL okY c) : okB8 c := fun x hx => h.2 x hx
def vSt (s : Sign) : Int × Bool := if gSign s = true then ((stepsS s : Int), true) else (0, false)
theorem s_St_eq {k : Nat} {s : Sign} (hs : smallS s) (hk : 2000010 ≤ k) : X.s_StepsOfSign k s = some (vSt s) := by
  unfold X.s_StepsOfSign vSt
  rw [s_siGood_eq hs hk, bind_some]
  cases h : gSign s
  · rfl
  · simp only [Bool.not_true, cond_false, if_true]
    rw [s_mvAll_eq (gHand_iff.1 (gSign_main h)).2.2.2 (by omega), bind_some, s_all_other h (by omega), bind_some]
    unfold X.s_l1Most stepsS
    by_cases hh : ((allSteps s.Main.Move).length : Int) > ((allSteps s.Other.Move).length : Int)
    · rw [decide_eq_true hh, cond_true, bind_some]
      congr 2
      omega
    · rw [decide_eq_false hh, cond_false, bind_some]
      congr 2
      omega
theorem bindB {α β : Type} {o : Option α} {v : α} {F : α → Option β} {r : Option β} (h : o = some v) (hF : F v = r) : Option.bind o F = r := by
  rw [h]
  exact hF
theorem orElB {ρ σ β : Type} {o : Option (ρ ⊕ σ)} {v : σ} {G : ρ → Option β} {F : σ → Option β} {r : Option β} (h : o = some (.inr v)) (hF : F v = r) : orEl o G F = r := by
  rw [h]
  exact hF
end Go.Proofs.XC
