/- Plain laws of the plain functions: no program, no memory. By AI agents; no person has read it. -/
import Derived.Test.YtjnablhfhdedfaaGreatDoorPX7
set_option linter.unusedVariables false
set_option linter.unusedSimpArgs false
set_option maxRecDepth 100000
set_option maxHeartbeats 40000000
namespace Go.Proofs.XC
open Go Go.RowKit
/-! ### Sizes -/
/-- The size of a text fits. -/
def fitS (s : Sign) : Prop := s.Main.Move.Steps.length ≤ 9223372036854775807 ∧ s.Other.Move.Steps.length ≤ 9223372036854775807
theorem szMove_eq {m : Move} {z : Int} (h : m.Steps.length ≤ 9223372036854775807) (h0 : 0 ≤ z) (h1 : z ≤ 9223372036854775807) : X.l_szMove m z = some (if z < m.Steps.length then -1 else z - m.Steps.length) := by
  unfold X.l_szMove
  rw [wr_of (by omega) (by omega)]
  by_cases hz : z < m.Steps.length
  · have : decide (z - (m.Steps.length : Int) < 0) = true := by simp; omega
    rw [this]
    simp [hz]
  · have : decide (z - (m.Steps.length : Int) < 0) = false := by simp; omega
    rw [this]
    simp [hz]
theorem szHand_eq {h : Hand} {z : Int} (hl : h.Move.Steps.length ≤ 9223372036854775807) (h0 : 0 ≤ z) (h1 : z ≤ 9223372036854775807) : X.l_szHand h z = some (if z < h.Move.Steps.length then -1 else z - h.Move.Steps.length) := by
  unfold X.l_szHand
  rw [szMove_eq hl h0 h1, bind_some]
  by_cases hz : z < h.Move.Steps.length
  · simp [hz]
  · have : decide (z - (h.Move.Steps.length : Int) < 0) = false := by simp; omega
    simp only [hz, if_false, this, cond_false]
/-- Too large, or small, with what is left. -/
theorem szSign_eq {s : Sign} {z : Int} (hl : fitS s) (h0 : 0 ≤ z) (h1 : z ≤ 1048576) : ∃ r, X.l_szSign s z = some r ∧ (r < 0 ∨ (smallS s ∧ 0 ≤ r ∧ r ≤ z)) := by
  obtain ⟨g1, g2⟩ := hl
  unfold X.l_szSign
  rw [szHand_eq g1 h0 (by omega), bind_some]
  by_cases hz : z < s.Main.Move.Steps.length
  · refine ⟨-1, ?_, .inl (by omega)⟩
    simp [hz]
  · have : decide (z - (s.Main.Move.Steps.length : Int) < 0) = false := by simp; omega
    simp only [hz, if_false, this, cond_false]
    rw [szHand_eq g2 (by omega) (by omega), bind_some]
    by_cases hz2 : z - s.Main.Move.Steps.length < s.Other.Move.Steps.length
    · refine ⟨-1, ?_, .inl (by omega)⟩
      simp [hz2]
    · have h3 : decide (z - (s.Main.Move.Steps.length : Int) - (s.Other.Move.Steps.length : Int) < 0) = false := by simp; omega
      refine ⟨z - s.Main.Move.Steps.length - s.Other.Move.Steps.length, by simp only [hz2, if_false, h3, cond_false], .inr ⟨⟨?_, ?_⟩, by omega, by omega⟩⟩
      · unfold small; omega
      · unfold small; omega
theorem toHand_eq (h : Hand) : X.l_toHand h = some h := rfl
theorem toSign_eq (s : Sign) : X.l_toSign s = some s := rfl

/-! ### PatternOf -/
def pOf (s : Sign) : Pattern := ⟨(tShape (nS s).Main.Shape).take 5, tOrient (nS s).Main.Orient, (nS s).Main.Place.Region, allSteps (nS s).Main.Move, if s.Two then 2 else 1⟩
theorem nS_main {s : Sign} (g : gSign s = true) : gHand (nS s).Main = true := by
  have gm := gSign_main g
  unfold nS
  split
  · exact gHand_nH gm
  · rename_i h
    have h' : s.Two = true := by simpa using h
    split
    · exact gHand_nH (gSign_other g h').1
    · exact gHand_nH gm
theorem nS_two (s : Sign) : (nS s).Two = s.Two := by
  unfold nS
  cases h : s.Two
  · simp
  · simp only [Bool.true_eq_false, if_false]
    split <;> rfl
theorem cut5 (s : Shape) : cutS (tShape s) 0 5 = some ((tShape s).take 5) := cut0 (tShape s) 5 (by unfold tShape; simp)
theorem i_patternOf_eq {k : Nat} {s : Sign} (g : gSign s = true) (hk : 10 ≤ k) : X.i_patternOf k s = some (pOf s) := by
  obtain ⟨g1, g2, g3, g4⟩ := gHand_iff.1 (nS_main g)
  unfold X.i_patternOf pOf
  simp only [i_normal_eq g hk, bind_some, i_Shape_text_eq g1, cut5, i_Orient_text_eq g2, i_Move_all_eq g4]
  cases s.Two <;> rfl
theorem beq_dec (a b : Int) : (a == b) = decide (a = b) := by rw [Bool.eq_iff_iff]; simp
end Go.Proofs.XC
