/- Plain laws of the plain functions: no program, no memory. By AI agents; no person has read it. -/
import Derived.Test.YtjjhlccjfdcfcaaGreatDoorPW2
import Derived.Test.YtjjhlccjfdcfcaaGreatDoorPY
set_option linter.unusedVariables false
set_option linter.unusedSimpArgs false
set_option maxRecDepth 100000
set_option maxHeartbeats 40000000
namespace Go.Proofs.XC
open Go Go.RowKit
/-! ### Reduced signs are signs -/
theorem rootF_spec (s : Str) : ∀ (d n : Nat), 1 ≤ n → n + d = s.length → ∃ q, n ≤ q ∧ q ≤ s.length ∧ rootF s n d = s.take q ∧ (∀ p, n ≤ p → isRoot s p = true → p ≤ s.length → q ≤ p)
  | 0, n, h1, h => ⟨n, Nat.le_refl _, by omega, by rw [rootF, show n = s.length by omega, List.take_length], fun p hp _ _ => hp⟩
  | d + 1, n, h1, h => by
    rw [rootF]
    by_cases hr : isRoot s n = true
    · rw [if_pos hr]
      exact ⟨n, Nat.le_refl _, by omega, rfl, fun p hp _ _ => hp⟩
    · rw [if_neg hr]
      obtain ⟨q, h2, h3, h4, h5⟩ := rootF_spec s d (n + 1) (by omega) (by omega)
      refine ⟨q, by omega, h3, h4, fun p hp hr2 hl => ?_⟩
      rcases Nat.lt_or_ge n p with h6 | h6
      · exact h5 p h6 hr2 hl
      · have : p = n := by omega
        subst this
        exact absurd hr2 hr
theorem root_nil : root [] = [] := rfl
theorem root_spec {s : Str} (h : s ≠ []) : ∃ q, 1 ≤ q ∧ q ≤ s.length ∧ root s = s.take q ∧ (∀ p, 1 ≤ p → isRoot s p = true → p ≤ s.length → q ≤ p) := by
  have hl : 1 ≤ s.length := by
    rcases Nat.eq_zero_or_pos s.length with h1 | h1
    · exact absurd (List.eq_nil_of_length_eq_zero h1) h
    · exact h1
  exact rootF_spec s (s.length - 1) 1 (Nat.le_refl _) (by omega)
theorem root_nil_iff (s : Str) : root s = [] ↔ s = [] := by
  constructor
  · intro h
    rcases Classical.em (s = []) with h1 | h1
    · exact h1
    · obtain ⟨q, h2, h3, h4, _⟩ := root_spec h1
      rw [h4] at h
      have := congrArg List.length h
      simp at this
      rcases this with h | h
      · omega
      · exact h
  · rintro rfl
    rfl
theorem repeatL_len (s : Str) : ∀ n, (Lib.repeatL s n).length = n * s.length
  | 0 => by simp [Lib.repeatL]
  | n + 1 => by
    rw [Lib.repeatL, List.length_append, repeatL_len s n, Nat.succ_mul, Nat.add_comm]
theorem isRoot_repeat {t : Str} {r : Nat} (ht : t ≠ []) (hr : 1 ≤ r) : isRoot (Lib.repeatL t r) t.length = true := by
  have hl : 1 ≤ t.length := by
    rcases Nat.eq_zero_or_pos t.length with h1 | h1
    · exact absurd (List.eq_nil_of_length_eq_zero h1) ht
    · exact h1
  unfold isRoot
  rw [repeatL_len, Nat.mul_mod_left, Nat.mul_div_cancel _ (by omega)]
  have htk : (Lib.repeatL t r).take t.length = t := by
    obtain ⟨q, rfl⟩ : ∃ q, r = q + 1 := ⟨r - 1, by omega⟩
    rw [Lib.repeatL, List.take_left]
  rw [htk]
  simp
theorem root_len {m : Move} (g : gMove m = true) : (root (allSteps m)).length ≤ 6 := by
  obtain ⟨g1, g2, g3, g4⟩ := gMove_iff.1 g
  by_cases h : allSteps m = []
  · rw [h]; simp [root_nil]
  · obtain ⟨q, h1, h2, h3, h4⟩ := root_spec h
    have hs : m.Steps ≠ [] := by
      intro e
      apply h
      unfold allSteps
      rw [e]
      apply List.eq_nil_of_length_eq_zero
      rw [repeatL_len]
      simp
    have hl : m.Steps.length ≤ (allSteps m).length := by
      unfold allSteps
      rw [repeatL_len]
      exact Nat.le_mul_of_pos_left _ (by omega)
    have := h4 m.Steps.length (by
      rcases Nat.eq_zero_or_pos m.Steps.length with h1 | h1
      · exact absurd (List.eq_nil_of_length_eq_zero h1) hs
      · exact h1) (isRoot_repeat hs (by omega)) hl
    rw [h3, List.length_take]
    omega
theorem root_take (s : Str) : ∃ q, root s = s.take q := by
  by_cases h : s = []
  · subst h; exact ⟨0, rfl⟩
  · obtain ⟨q, _, _, h3, _⟩ := root_spec h
    exact ⟨q, h3⟩
def rMove (m : Move) : Move := ⟨root (allSteps m), 1⟩
theorem gMove_root {m : Move} (g : gMove m = true) : gMove (rMove m) = true := by
  refine gMove_iff.2 ⟨root_len g, ?_, by simp [rMove], .inr rfl⟩
  obtain ⟨q, hq⟩ := root_take (allSteps m)
  show (root (allSteps m)).all isDir = true
  rw [hq, List.all_eq_true]
  intro x hx
  exact List.all_eq_true.1 (all_dirs g) x (List.mem_of_mem_take hx)
theorem allSteps_root (m : Move) : allSteps (rMove m) = root (allSteps m) := by
  unfold allSteps rMove
  exact repeatL_one _
theorem swap_swap (b : UInt8) : swapLR (swapLR b) = b := by
  unfold swapLR
  by_cases h : b = 108
  · subst h; rfl
  · by_cases h2 : b = 114
    · subst h2; rfl
    · simp [h, h2]
theorem map_swap_inj {a b : Str} (h : a.map swapLR = b.map swapLR) : a = b := by
  have := congrArg (List.map swapLR) h
  simpa [List.map_map, Function.comp_def, swap_swap] using this
theorem repeatL_map (s : Str) : ∀ n, Lib.repeatL (s.map swapLR) n = (Lib.repeatL s n).map swapLR
  | 0 => rfl
  | n + 1 => by
    rw [Lib.repeatL, Lib.repeatL, repeatL_map s n, List.map_append]
theorem isRoot_map (s : Str) (n : Nat) : isRoot (s.map swapLR) n = isRoot s n := by
  unfold isRoot
  rw [List.length_map, ← List.map_take, repeatL_map]
  congr 1
  by_cases h : Lib.repeatL (s.take n) (s.length / n) = s
  · simp [h]
  · simp only [h, decide_false]
    rw [decide_eq_false_iff_not]
    exact fun e => h (map_swap_inj e)
theorem rootF_map (s : Str) : ∀ (d n : Nat), rootF (s.map swapLR) n d = (rootF s n d).map swapLR
  | 0, n => rfl
  | d + 1, n => by
    rw [rootF, rootF, isRoot_map, rootF_map s d (n + 1), ← List.map_take]
    split <;> rfl
theorem root_map (s : Str) : root (s.map swapLR) = (root s).map swapLR := by
  unfold root
  rw [List.length_map, rootF_map]
theorem allSteps_mir (m : Move) : allSteps (mirM m) = (allSteps m).map swapLR := by
  unfold allSteps mirM
  exact repeatL_map _ _
def rHand (h : Hand) : Hand := { h with Move := rMove h.Move }
theorem gHand_root {h : Hand} (g : gHand h = true) : gHand (rHand h) = true := by
  obtain ⟨g1, g2, g3, g4⟩ := gHand_iff.1 g
  exact gHand_iff.2 ⟨g1, g2, g3, gMove_root g4⟩
theorem steps_nil_iff {m : Move} (g : gMove m = true) : allSteps m = [] ↔ m.Steps = [] := by
  obtain ⟨g1, g2, g3, g4⟩ := gMove_iff.1 g
  unfold allSteps
  constructor
  · intro h
    have := congrArg List.length h
    rw [repeatL_len] at this
    rcases Nat.mul_eq_zero.1 (this.trans rfl) with h | h
    · omega
    · exact List.eq_nil_of_length_eq_zero h
  · intro h
    apply List.eq_nil_of_length_eq_zero
    rw [repeatL_len, h]
    simp
theorem gKeep_root {a b : Hand} (ga : gMove a.Move = true) (gb : gMove b.Move = true) (h : gKeep a b = true) : gKeep (rHand a) (rHand b) = true := by
  unfold gKeep at h ⊢
  have eb : ((rHand b).Move.Steps = []) ↔ b.Move.Steps = [] := by
    show root (allSteps b.Move) = [] ↔ _
    rw [root_nil_iff, steps_nil_iff gb]
  have ea : ((rHand a).Move.Steps = []) ↔ a.Move.Steps = [] := by
    show root (allSteps a.Move) = [] ↔ _
    rw [root_nil_iff, steps_nil_iff ga]
  by_cases h0 : b.Move.Steps = []
  · rw [if_pos h0] at h
    rw [if_pos (eb.2 h0)]
    exact h
  · rw [if_neg h0] at h
    rw [if_neg (fun e => h0 (eb.1 e))]
    simp only [decide_eq_true_eq] at h ⊢
    obtain ⟨h1, h2, h3, h4⟩ := h
    refine ⟨fun e => h1 (ea.1 e), h2, h3, ?_⟩
    have e1 : allSteps (rHand b).Move = root (allSteps b.Move) := allSteps_root _
    have e2 : allSteps (rHand a).Move = root (allSteps a.Move) := allSteps_root _
    have e3 : allSteps (mirM (rHand a).Move) = (root (allSteps a.Move)).map swapLR := by rw [allSteps_mir, e2]
    rw [e1, e2, e3]
    rcases h4 with h4 | h4
    · left; rw [h4]
    · right; rw [h4, allSteps_mir, root_map]
theorem redS_eq (s : Sign) : redS s = if s.Two then ⟨rHand s.Main, s.Two, rHand s.Other⟩ else { s with Main := rHand s.Main } := rfl
theorem gSign_red {s : Sign} (g : gSign s = true) : gSign (redS s) = true := by
  have gm := gSign_main g
  rw [redS_eq]
  cases h : s.Two
  · simp only [Bool.false_eq_true, if_false]
    unfold gSign
    have ho := gSign_none g h
    simp [h, ho, gHand_root gm]
  · simp only [if_true]
    obtain ⟨go, gk⟩ := gSign_other g h
    unfold gSign
    simp [gHand_root gm, gHand_root go, gKeep_root (gHand_iff.1 gm).2.2.2 (gHand_iff.1 go).2.2.2 gk]
end Go.Proofs.XC
