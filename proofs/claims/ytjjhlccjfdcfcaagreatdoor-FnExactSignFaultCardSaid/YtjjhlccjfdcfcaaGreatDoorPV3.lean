/- Plain laws of the plain functions: no program, no memory. By AI agents; no person has read it. -/
import Derived.Test.YtjjhlccjfdcfcaaGreatDoorPV2
set_option linter.unusedVariables false
set_option linter.unusedSimpArgs false
set_option maxRecDepth 100000
set_option maxHeartbeats 40000000
namespace Go.Proofs.XC
open Go Go.RowKit
def plT (r s : Nat) (c : Bool) : Str := (names.getD r [] ++ (if s = 0 then [60] else if s = 2 then [62] else [])) ++ (if c then [42] else [])
theorem plT_inj : ∀ (r1 r2 : Fin 10) (s1 s2 : Fin 3) (c1 c2 : Bool), plT r1.1 s1.1 c1 = plT r2.1 s2.1 c2 → r1 = r2 ∧ s1 = s2 ∧ c1 = c2 := by decide +kernel
theorem tPlace_plT {p : Place} (h : (0 ≤ p.Region ∧ p.Region ≤ 9) ∧ (-1 ≤ p.Side ∧ p.Side ≤ 1)) : tPlace p = plT p.Region.toNat (p.Side + 1).toNat p.Contact := by
  unfold tPlace plT
  have h1 : p.Side = -1 ∨ p.Side = 0 ∨ p.Side = 1 := by omega
  rcases h1 with h1 | h1 | h1 <;> simp [h1]
theorem tPlace_inj {a b : Place} (ga : gPlace a = true) (gb : gPlace b = true) (h : tPlace a = tPlace b) : a = b := by
  rw [gPlace_iff] at ga gb
  rw [tPlace_plT ⟨ga.1, ga.2.1⟩, tPlace_plT ⟨gb.1, gb.2.1⟩] at h
  obtain ⟨e1, e2, e3⟩ := plT_inj ⟨a.Region.toNat, by omega⟩ ⟨b.Region.toNat, by omega⟩ ⟨(a.Side + 1).toNat, by omega⟩ ⟨(b.Side + 1).toNat, by omega⟩ a.Contact b.Contact h
  simp only [Fin.mk.injEq] at e1 e2
  have f1 : a.Region = b.Region := by omega
  have f2 : a.Side = b.Side := by omega
  cases a
  cases b
  simp_all
theorem dir_not {m : Move} (h : m.Steps.all isDir = true) {b : UInt8} (hb : isDir b = false) : b ∉ m.Steps := fun hm => by
  rw [List.all_eq_true] at h
  rw [h b hm] at hb
  cases hb
theorem tMove_inj {a b : Move} (ga : gMove a = true) (gb : gMove b = true) (h : tMove a = tMove b) : a = b := by
  rw [gMove_iff] at ga gb
  have a1 : (42 : UInt8) ∉ a.Steps := dir_not (by simp_all) rfl
  have b1 : (42 : UInt8) ∉ b.Steps := dir_not (by simp_all) rfl
  have a2 : (45 : UInt8) ∉ a.Steps := dir_not (by simp_all) rfl
  have b2 : (45 : UInt8) ∉ b.Steps := dir_not (by simp_all) rfl
  have key : a.Steps = b.Steps ∧ a.Repeat = b.Repeat := by
    unfold tMove at h
    by_cases ea : a.Steps = [] <;> by_cases eb : b.Steps = []
    · refine ⟨by rw [ea, eb], ?_⟩
      simp_all
    · exfalso
      rw [if_pos ea, if_neg eb] at h
      have : (45 : UInt8) ∈ (if b.Repeat = 1 then b.Steps else b.Steps ++ [42] ++ [dig b.Repeat]) := by rw [← h]; simp
      have hd := b.Repeat
      split at this
      · exact b2 this
      · rename_i hr
        simp only [List.mem_append, List.mem_singleton] at this
        rcases this with (h3 | h3) | h3
        · exact b2 h3
        · cases h3
        · have h4 : b.Repeat = 2 ∨ b.Repeat = 3 := by omega
          rcases h4 with h4 | h4 <;> rw [h4] at h3 <;> exact absurd h3 (by decide)
    · exfalso
      rw [if_pos eb, if_neg ea] at h
      have : (45 : UInt8) ∈ (if a.Repeat = 1 then a.Steps else a.Steps ++ [42] ++ [dig a.Repeat]) := by rw [h]; simp
      split at this
      · exact a2 this
      · rename_i hr
        simp only [List.mem_append, List.mem_singleton] at this
        rcases this with (h3 | h3) | h3
        · exact a2 h3
        · cases h3
        · have h4 : a.Repeat = 2 ∨ a.Repeat = 3 := by omega
          rcases h4 with h4 | h4 <;> rw [h4] at h3 <;> exact absurd h3 (by decide)
    · rw [if_neg ea, if_neg eb] at h
      by_cases ra : a.Repeat = 1 <;> by_cases rb : b.Repeat = 1
      · rw [if_pos ra, if_pos rb] at h
        exact ⟨h, by rw [ra, rb]⟩
      · exfalso
        rw [if_pos ra, if_neg rb] at h
        exact a1 (by rw [h]; simp)
      · exfalso
        rw [if_neg ra, if_pos rb] at h
        exact b1 (by rw [← h]; simp)
      · rw [if_neg ra, if_neg rb, List.append_assoc, List.append_assoc] at h
        have hl : a.Steps.length = b.Steps.length := by
          have := congrArg List.length h
          simp at this
          exact this
        obtain ⟨h5, h6⟩ := List.append_inj h hl
        refine ⟨h5, dig_inj (by omega) (by omega) ?_⟩
        simpa using h6
  cases a
  cases b
  simp_all
end Go.Proofs.XC
