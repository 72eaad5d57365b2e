/- Plain laws of the plain functions: no program, no memory. By AI agents; no person has read it. -/
import Derived.Test.YtenkalmmdamfgaaGreatDoorSPL6
import Derived.Test.YtenkalmmdamfgaaGreatDoorSPQ3
set_option linter.unusedVariables false
set_option linter.unusedSimpArgs false
set_option maxRecDepth 100000
set_option maxHeartbeats 40000000
namespace Go.Proofs.XC
open Go Go.RowKit
/-! ### Texts of constraints -/
/-! ### Reading -/
/-! ### Parsing -/
/-! ### Broken constraints -/
/-! ### Draws -/
theorem of_len {c : List Int} {t s : Int} {l : List Str} {m : Nat} (hc : okB8 c) (h : Bg m t) (hm : 2 ≤ m) (hl : l ≠ []) (hn : ∀ x ∈ l, x.length ≤ 100) : Dw (m - 2) (fun v : Str => v.length ≤ 100) (X.s_l1Cur_of c t s l) := (of_ex hc h hm hl).mono (Nat.le_refl _) fun v hv => hn v hv
theorem cut_some {s : Str} {a b : Int} (h0 : 0 ≤ a) (h1 : a ≤ b) (h2 : b ≤ s.length) : ∃ r, cutS s a b = some r ∧ (r.length : Int) = b - a := by
  unfold cutS
  rw [if_pos ⟨h0, h1, h2⟩]
  refine ⟨_, rfl, ?_⟩
  rw [List.length_take, List.length_drop]
  omega
end Go.Proofs.XC
