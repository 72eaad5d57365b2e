/- Plain laws of the plain functions: no program, no memory. By AI agents; no person has read it. -/
import Derived.Test.YtjnablhfhdedfaaGreatDoorPX3
set_option linter.unusedVariables false
set_option linter.unusedSimpArgs false
set_option maxRecDepth 100000
set_option maxHeartbeats 40000000
namespace Go.Proofs.XC
open Go Go.RowKit
def gKeep (a b : Hand) : Bool := if b.Move.Steps = [] then decide (b.Shape = a.Shape ∨ b.Shape ∈ plainL) else
  decide (a.Move.Steps ≠ [] ∧ a.Shape = b.Shape ∧ (b.Orient = a.Orient ∨ b.Orient = mirO a.Orient) ∧ (allSteps b.Move = allSteps a.Move ∨ allSteps b.Move = allSteps (mirM a.Move)))
theorem moves_eq (h : Hand) : X.i_Hand_moves h = some (!h.Move.Steps.isEmpty) := by
  unfold X.i_Hand_moves
  rw [seq_nil]
theorem isEmpty_iff' (s : Str) : s.isEmpty = decide (s = []) := by cases s <;> simp
theorem i_mirM_eq {m : Move} (h : gMove m = true) : X.i_Move_mirrored m = some (mirM m) := by
  unfold X.i_Move_mirrored
  rw [if_pos (by have := (gMove_iff.1 h).1; omega)]
  rfl
theorem i_keepRules_eq (k : Nat) {a b : Hand} (ha : gMove a.Move = true) (hb : gMove b.Move = true) : X.i_keepRules (k + 6) a b = some (gKeep a b) := by
  unfold X.i_keepRules gKeep
  simp only [moves_eq, i_mirO_eq, i_mirM_eq ha, i_Move_all_eq ha, i_Move_all_eq hb, i_Move_all_eq (gMove_mir ha), bind_some, i_PlainShapes_eq, i_contains_eq, qShape_iff, qOrient_iff, seq_eq, isEmpty_iff']
  by_cases h1 : b.Move.Steps = []
  · by_cases h2 : b.Shape = a.Shape
    · simp [h1, h2]
    · simp [h1, h2]
  · by_cases h2 : b.Orient = a.Orient <;> by_cases h3 : allSteps b.Move = allSteps a.Move <;> by_cases h4 : a.Move.Steps = [] <;> by_cases h5 : a.Shape = b.Shape <;> by_cases h6 : b.Orient = mirO a.Orient <;> simp [h1, h2, h3, h4, h5, h6]
def vBroken (a b : Hand) : Int := if b.Move.Steps = [] then (if a.Shape = b.Shape ∨ b.Shape ∈ plainL then 0 else 4) else
  if a.Move.Steps = [] then 3 else if a.Shape ≠ b.Shape then 1 else if a.Orient ≠ b.Orient ∧ a.Orient ≠ mirO b.Orient then 2 else
  if allSteps a.Move ≠ allSteps b.Move ∧ allSteps (mirM a.Move) ≠ allSteps b.Move then 3 else 0
theorem s_siBroken_eq {k : Nat} {a b : Hand} (ha : gMove a.Move = true) (hb : gMove b.Move = true) (hk : 10 ≤ k) : X.s_siBroken k a b = some (vBroken a b) := by
  obtain ⟨q, rfl⟩ : ∃ q, k = q + 6 := ⟨k - 6, by omega⟩
  have hl : a.Move.Steps.length ≤ 6 := (gMove_iff.1 ha).1
  unfold X.s_siBroken vBroken
  simp only [s_mirO_eq, s_mvAll_eq ha (show 4 ≤ q + 6 by omega), s_mvAll_eq hb (show 4 ≤ q + 6 by omega), s_mvMirror_eq (m := a.Move) (k := q + 6) (by omega) (by omega), s_mvAll_eq (gMove_mir ha) (show 4 ≤ q + 6 by omega), bind_some, s_siPlain_eq, s_find_eq, qShape_iff, qOrient_iff, seq_eq]
  by_cases h1 : b.Move.Steps = []
  · by_cases h2 : a.Shape = b.Shape
    · simp [h1, h2]
    · have hf := s_find_eq b.Shape plainL 0
      simp only [qShape_iff] at hf
      by_cases h3 : b.Shape ∈ plainL <;> simp [h1, h2, h3, orEl, hf]
  · by_cases h2 : a.Move.Steps = [] <;> by_cases h3 : a.Shape = b.Shape <;> by_cases h4 : a.Orient = b.Orient <;> by_cases h5 : a.Orient = mirO b.Orient <;> by_cases h6 : allSteps a.Move = allSteps b.Move <;> by_cases h7 : allSteps (mirM a.Move) = allSteps b.Move <;> simp [h1, h2, h3, h4, h5, h6, h7]
theorem mirO_eq_iff (a b : Orient) : a = mirO b ↔ b = mirO a := by
  constructor
  · intro h; rw [h, mirO_mirO]
  · intro h; rw [h, mirO_mirO]
theorem vBroken_iff (a b : Hand) : (vBroken a b == 0) = gKeep a b := by
  unfold vBroken gKeep
  have e1 : (b.Shape = a.Shape) ↔ (a.Shape = b.Shape) := eq_comm
  have e2 : (b.Orient = a.Orient) ↔ (a.Orient = b.Orient) := eq_comm
  have e3 : (b.Orient = mirO a.Orient) ↔ (a.Orient = mirO b.Orient) := (mirO_eq_iff _ _)
  have e4 : (allSteps b.Move = allSteps a.Move) ↔ (allSteps a.Move = allSteps b.Move) := eq_comm
  have e5 : (allSteps b.Move = allSteps (mirM a.Move)) ↔ (allSteps (mirM a.Move) = allSteps b.Move) := eq_comm
  simp only [e1, e2, e3, e4, e5]
  by_cases h1 : b.Move.Steps = []
  · by_cases h2 : a.Shape = b.Shape ∨ b.Shape ∈ plainL <;> simp [h1, h2]
  · by_cases h2 : a.Move.Steps = [] <;> by_cases h3 : a.Shape = b.Shape <;> by_cases h4 : a.Orient = b.Orient <;> by_cases h5 : a.Orient = mirO b.Orient <;> by_cases h6 : allSteps a.Move = allSteps b.Move <;> by_cases h7 : allSteps (mirM a.Move) = allSteps b.Move <;> simp [h1, h2, h3, h4, h5, h6, h7]
theorem qMove_iff (a b : Move) : qMove a b = decide (a = b) := by
  unfold qMove
  cases a
  cases b
  rw [seq_eq, Bool.eq_iff_iff]
  simp
theorem qPlace_iff (a b : Place) : qPlace a b = decide (a = b) := by
  unfold qPlace
  cases a
  cases b
  rw [Bool.eq_iff_iff]
  simp
theorem qHand_iff (a b : Hand) : qHand a b = decide (a = b) := by
  unfold qHand
  rw [qShape_iff, qOrient_iff, qPlace_iff, qMove_iff]
  cases a
  cases b
  rw [Bool.eq_iff_iff]
  simp
theorem qSign_iff (a b : Sign) : qSign a b = decide (a = b) := by
  unfold qSign
  rw [qHand_iff, qHand_iff]
  cases a
  cases b
  rw [Bool.eq_iff_iff]
  simp
def gSign (s : Sign) : Bool := gHand s.Main && (if s.Two then gHand s.Other && gKeep s.Main s.Other else decide (s.Other = zHand))
def smallS (s : Sign) : Prop := small s.Main ∧ small s.Other
theorem gHand_iff {h : Hand} : gHand h = true ↔ gShape h.Shape = true ∧ gOrient h.Orient = true ∧ gPlace h.Place = true ∧ gMove h.Move = true := by
  unfold gHand
  simp
theorem i_IsSign_eq {k : Nat} {s : Sign} (hs : smallS s) (hk : 10 ≤ k) : X.i_IsSign k s = some (gSign s) := by
  obtain ⟨q, rfl⟩ : ∃ q, k = q + 6 := ⟨k - 6, by omega⟩
  unfold X.i_IsSign gSign
  simp only [i_IsHand_eq _ hs.1, i_IsHand_eq _ hs.2, bind_some, qHand_iff]
  cases h1 : gHand s.Main
  · simp
  cases h2 : s.Two
  · simp
  cases h3 : gHand s.Other
  · simp
  rw [i_keepRules_eq q (gHand_iff.1 h1).2.2.2 (gHand_iff.1 h3).2.2.2]
  simp [bind_some]
theorem s_siGood_eq {k : Nat} {s : Sign} (hs : smallS s) (hk : 2000010 ≤ k) : X.s_siGood k s = some (gSign s) := by
  unfold X.s_siGood gSign
  simp only [s_siHand_eq k _ hs.1 hk, s_siHand_eq k _ hs.2 hk, bind_some, qHand_iff]
  cases h1 : gHand s.Main
  · simp
  cases h2 : s.Two
  · simp
  cases h3 : gHand s.Other
  · simp
  rw [s_siBroken_eq (gHand_iff.1 h1).2.2.2 (gHand_iff.1 h3).2.2.2 (by omega), bind_some, vBroken_iff]
  simp
end Go.Proofs.XC
