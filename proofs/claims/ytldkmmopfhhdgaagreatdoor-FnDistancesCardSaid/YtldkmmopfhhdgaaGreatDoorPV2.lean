/- Plain laws of the plain functions: no program, no memory. By AI agents; no person has read it. -/
import Derived.Test.YtldkmmopfhhdgaaGreatDoorPV1
set_option linter.unusedVariables false
set_option linter.unusedSimpArgs false
set_option maxRecDepth 100000
set_option maxHeartbeats 40000000
namespace Go.Proofs.XC
open Go Go.RowKit
/-! ### A part's text tells the part -/
theorem dig_inj {a b : Int} (ha : 0 ≤ a ∧ a ≤ 3) (hb : 0 ≤ b ∧ b ≤ 3) (h : dig a = dig b) : a = b := by
  have h1 : a = 0 ∨ a = 1 ∨ a = 2 ∨ a = 3 := by omega
  have h2 : b = 0 ∨ b = 1 ∨ b = 2 ∨ b = 3 := by omega
  rcases h1 with rfl | rfl | rfl | rfl <;> rcases h2 with rfl | rfl | rfl | rfl <;> first | rfl | (exact absurd h (by decide))
theorem tShape_inj {a b : Shape} (ga : gShape a = true) (gb : gShape b = true) (h : tShape a = tShape b) : a = b := by
  rw [gShape_iff] at ga gb
  obtain ⟨a1, a2, a3, a4, a5, _⟩ := ga
  obtain ⟨b1, b2, b3, b4, b5, _⟩ := gb
  unfold tShape at h
  simp only [List.cons_append, List.nil_append, List.cons.injEq] at h
  obtain ⟨h1, h2, h3, h4, h5, h6⟩ := h
  have e1 := dig_inj (by omega) (by omega) h1
  have e2 := dig_inj (by omega) (by omega) h2
  have e3 := dig_inj (by omega) (by omega) h3
  have e4 := dig_inj (by omega) (by omega) h4
  have e5 := dig_inj (by omega) (by omega) h5
  have e6 : a.Spread = b.Spread := by cases hs : a.Spread <;> cases ht : b.Spread <;> simp [hs, ht] at h6 ⊢
  cases a
  cases b
  simp_all
theorem dl_inj {a b : Int} (ha : inR a 0 5 = true) (hb : inR b 0 5 = true) (h : dl a = dl b) : a = b := by
  rcases inR_cases ha with rfl | rfl | rfl | rfl | rfl | rfl <;> rcases inR_cases hb with rfl | rfl | rfl | rfl | rfl | rfl <;> first | rfl | (exact absurd h (by decide))
theorem tOrient_inj {a b : Orient} (ga : gOrient a = true) (gb : gOrient b = true) (h : tOrient a = tOrient b) : a = b := by
  rw [gOrient_iff] at ga gb
  unfold tOrient at h
  simp only [List.cons.injEq] at h
  have e1 := dl_inj ga.1 gb.1 h.1
  have e2 := dl_inj ga.2.1 gb.2.1 h.2.1
  cases a
  cases b
  simp_all
end Go.Proofs.XC
