/- Plain laws of the plain functions: no program, no memory. By AI agents; no person has read it. -/
import Derived.Test.YtjnablhfhdedfaaGreatDoorPX6
set_option linter.unusedVariables false
set_option linter.unusedSimpArgs false
set_option maxRecDepth 100000
set_option maxHeartbeats 40000000
namespace Go.Proofs.XC
open Go Go.RowKit
theorem repeatL_one (s : Str) : Lib.repeatL s 1 = s := by simp [Lib.repeatL]
theorem all_len {m : Move} (h : gMove m = true) : (allSteps m).length ≤ 18 := by
  obtain ⟨h1, _, h3, _⟩ := gMove_iff.1 h
  unfold allSteps
  rw [Lib.repeatL_length]
  have : m.Repeat.toNat * m.Steps.length ≤ 3 * 6 := Nat.mul_le_mul (by omega) h1
  omega
theorem repeatL_all (s : Str) (p : UInt8 → Bool) : ∀ n, s.all p = true → (Lib.repeatL s n).all p = true
  | 0, _ => rfl
  | n + 1, h => by
    rw [Lib.repeatL, List.all_append, h, repeatL_all s p n h]
    rfl
theorem all_dirs {m : Move} (h : gMove m = true) : (allSteps m).all isDir = true := repeatL_all _ _ _ (gMove_iff.1 h).2.1
/-- The normal form. -/
def nM (m : Move) : Move := (nMv (allSteps m)).1
/-- It is one, and has the same steps. -/
theorem nMv_good {m : Move} (h : gMove m = true) : gMove (nM m) = true ∧ allSteps (nM m) = allSteps m ∧ (nM m).Steps.isEmpty = m.Steps.isEmpty := by
  obtain ⟨g1, g2, g3, g4⟩ := gMove_iff.1 h
  have hall := all_dirs h
  have hempty : allSteps m = [] ↔ m.Steps = [] := by
    unfold allSteps
    constructor
    · intro e
      have := congrArg List.length e
      rw [Lib.repeatL_length] at this
      simp only [List.length_nil] at this
      rcases Nat.mul_eq_zero.1 this with h | h
      · omega
      · exact List.eq_nil_of_length_eq_zero h
    · intro e
      rw [e]
      have : ∀ n, Lib.repeatL [] n = [] := by
        intro n
        induction n with
        | zero => rfl
        | succ n ih => rw [Lib.repeatL, ih]; rfl
      exact this _
  have hx : ∃ r, 1 ≤ r ∧ r ≤ 3 ∧ (allSteps m ≠ [] → okR (allSteps m) r) := by
    refine ⟨m.Repeat.toNat, by omega, by omega, fun hne => ?_⟩
    have hl : (allSteps m).length / m.Repeat.toNat = m.Steps.length := by
      unfold allSteps
      rw [Lib.repeatL_length]
      exact Nat.mul_div_cancel_left _ (by omega)
    refine ⟨by rw [hl]; exact g1, ?_⟩
    unfold chk
    rw [hl]
    have : (allSteps m).take m.Steps.length = m.Steps := by
      unfold allSteps
      obtain ⟨q, hq⟩ : ∃ q, m.Repeat.toNat = q + 1 := ⟨m.Repeat.toNat - 1, by omega⟩
      rw [hq, Lib.repeatL, List.take_left]
    rw [this]
    rfl
  have one : ∀ r, 1 ≤ r → r ≤ 3 → allSteps m ≠ [] → okR (allSteps m) r → gMove ⟨(allSteps m).take ((allSteps m).length / r), (r : Int)⟩ = true ∧ allSteps ⟨(allSteps m).take ((allSteps m).length / r), (r : Int)⟩ = allSteps m ∧ ((allSteps m).take ((allSteps m).length / r)).isEmpty = m.Steps.isEmpty := by
    intro r h1 h3 hne ho
    have hle := Nat.div_le_self (allSteps m).length r
    have hl := chk_len hle ho.2
    have hpos : 0 < (allSteps m).length := List.length_pos_iff.2 hne
    have hd : 0 < (allSteps m).length / r := by
      rcases Nat.eq_zero_or_pos ((allSteps m).length / r) with h | h
      · rw [h] at hl; omega
      · exact h
    have hlen : ((allSteps m).take ((allSteps m).length / r)).length = (allSteps m).length / r := by rw [List.length_take]; exact Nat.min_eq_left hle
    have hne2 : (allSteps m).take ((allSteps m).length / r) ≠ [] := by
      intro e
      rw [e] at hlen
      simp only [List.length_nil] at hlen
      omega
    refine ⟨gMove_iff.2 ⟨by rw [hlen]; exact ho.1, ?_, ⟨by show (1 : Int) ≤ (r : Int); omega, by show (r : Int) ≤ 3; omega⟩, .inl hne2⟩, ?_, ?_⟩
    · rw [List.all_eq_true] at hall ⊢
      intro b hb
      exact hall b (List.mem_of_mem_take hb)
    · show Lib.repeatL _ ((r : Int)).toNat = _
      rw [Int.toNat_natCast]
      exact ho.2
    · rw [isEmpty_iff', isEmpty_iff']
      have : m.Steps ≠ [] := fun e => hne (hempty.2 e)
      simp [hne2, this]
  unfold nM nMv
  by_cases h0 : allSteps m = []
  · rw [if_pos h0]
    refine ⟨rfl, ?_, ?_⟩
    · rw [h0]; rfl
    · rw [isEmpty_iff', isEmpty_iff']
      simp [hempty.1 h0]
  rw [if_neg h0]
  by_cases h3 : okR (allSteps m) 3
  · rw [if_pos h3]; exact one 3 (by omega) (by omega) h0 h3
  rw [if_neg h3]
  by_cases h2 : okR (allSteps m) 2
  · rw [if_pos h2]; exact one 2 (by omega) (by omega) h0 h2
  rw [if_neg h2]
  by_cases h1 : okR (allSteps m) 1
  · rw [if_pos h1]; exact one 1 (by omega) (by omega) h0 h1
  exfalso
  obtain ⟨r, hr1, hr3, hr⟩ := hx
  have : r = 1 ∨ r = 2 ∨ r = 3 := by omega
  rcases this with h | h | h
  · exact h1 (h ▸ hr h0)
  · exact h2 (h ▸ hr h0)
  · exact h3 (h ▸ hr h0)
theorem i_Move_normal_eq {k : Nat} {m : Move} (h : gMove m = true) (hk : 10 ≤ k) : X.i_Move_normal k m = some (nM m) := by
  have := all_len h
  unfold X.i_Move_normal
  rw [i_Move_all_eq h, bind_some, i_moveOf_eq (by omega) (by omega)]
  rfl
theorem s_mvNormal_eq {k : Nat} {m : Move} (h : gMove m = true) (hk : 10 ≤ k) : X.s_mvNormal k m = some (nM m) := by
  have := all_len h
  unfold X.s_mvNormal
  rw [s_mvAll_eq h (by omega), bind_some, s_mvOf_eq (by omega) (by omega)]
  rfl
def nH (h : Hand) : Hand := { h with Move := nM h.Move }
theorem i_Hand_normal_eq {k : Nat} {h : Hand} (g : gMove h.Move = true) (hk : 10 ≤ k) : X.i_Hand_normal k h = some (nH h) := by
  unfold X.i_Hand_normal
  rw [i_Move_normal_eq g hk]
  rfl
theorem s_noHand_eq {k : Nat} {h : Hand} (g : gMove h.Move = true) (hk : 10 ≤ k) : X.s_noHand k h = some (nH h) := by
  unfold X.s_noHand
  rw [s_mvNormal_eq g hk]
  rfl
theorem gHand_nH {h : Hand} (g : gHand h = true) : gHand (nH h) = true := by
  rw [gHand_iff] at g ⊢
  exact ⟨g.1, g.2.1, g.2.2.1, (nMv_good g.2.2.2).1⟩
/-- The kind of a sign. -/
def kind (s : Sign) : Int := if s.Two = false then 0 else if s.Other.Move.Steps ≠ [] then 1 else if s.Main.Shape = s.Other.Shape then 2 else 3
theorem i_kind_eq (s : Sign) : X.i_Sign_kind s = some (kind s) := by
  unfold X.i_Sign_kind kind
  simp only [moves_eq, bind_some, qShape_iff, isEmpty_iff']
  have e : (s.Other.Shape = s.Main.Shape) ↔ (s.Main.Shape = s.Other.Shape) := eq_comm
  simp only [e]
  cases s.Two
  · simp
  by_cases h1 : s.Other.Move.Steps = [] <;> by_cases h2 : s.Main.Shape = s.Other.Shape <;> simp [h1, h2]
theorem s_kind_eq (s : Sign) : X.s_siKind s = some (kind s) := by
  unfold X.s_siKind kind
  simp only [seq_eq, qShape_iff]
  cases s.Two
  · simp
  by_cases h1 : s.Other.Move.Steps = [] <;> by_cases h2 : s.Main.Shape = s.Other.Shape <;> simp [h1, h2]
/-- The normal form of a sign. -/
def nS (s : Sign) : Sign := if s.Two = false then ⟨nH s.Main, false, zHand⟩ else
  if kind ⟨nH s.Main, true, nH s.Other⟩ = 1 ∧ slt (tHand (nH s.Other)) (tHand (nH s.Main)) = true then ⟨nH s.Other, true, nH s.Main⟩ else ⟨nH s.Main, true, nH s.Other⟩
theorem gSign_main {s : Sign} (g : gSign s = true) : gHand s.Main = true := by
  unfold gSign at g
  simp only [Bool.and_eq_true] at g
  exact g.1
theorem gSign_other {s : Sign} (g : gSign s = true) (h : s.Two = true) : gHand s.Other = true ∧ gKeep s.Main s.Other = true := by
  unfold gSign at g
  simpa [h, gSign_main g] using g
theorem gSign_none {s : Sign} (g : gSign s = true) (h : s.Two = false) : s.Other = zHand := by
  unfold gSign at g
  simpa [h, gSign_main g] using g
theorem i_normal_eq {k : Nat} {s : Sign} (g : gSign s = true) (hk : 10 ≤ k) : X.i_Sign_normal k s = some (nS s) := by
  have gm := gSign_main g
  unfold X.i_Sign_normal nS
  rw [i_Hand_normal_eq (gHand_iff.1 gm).2.2.2 hk, bind_some]
  cases h : s.Two with
  | false =>
    have ho := gSign_none g h
    simp [h, ho]
  | true =>
    have go := (gSign_other g h).1
    rw [i_Hand_normal_eq (gHand_iff.1 go).2.2.2 hk]
    simp only [bind_some, i_kind_eq, i_Hand_text_eq (gHand_nH gm), i_Hand_text_eq (gHand_nH go), Bool.not_true, cond_false]
    by_cases h1 : kind ⟨nH s.Main, true, nH s.Other⟩ = 1
    · cases h2 : slt (tHand (nH s.Other)) (tHand (nH s.Main)) <;> simp [h1, h2]
    · rw [beq_eq_false_iff_ne.2 h1]
      simp [h1]
theorem s_noForm_eq {k : Nat} {s : Sign} (g : gSign s = true) (hk : 10 ≤ k) : X.s_noForm k s = some (nS s) := by
  obtain ⟨q, rfl⟩ : ∃ q, k = q + 1 := ⟨k - 1, by omega⟩
  have gm := gSign_main g
  unfold X.s_noForm nS
  rw [s_noHand_eq (gHand_iff.1 gm).2.2.2 hk, bind_some]
  cases h : s.Two with
  | false => simp [zSign]
  | true =>
    have go := (gSign_other g h).1
    rw [s_noHand_eq (gHand_iff.1 go).2.2.2 hk]
    simp only [bind_some, s_kind_eq, s_siText_eq q (gHand_nH gm), s_siText_eq q (gHand_nH go), Bool.not_true, cond_false]
    by_cases h1 : kind ⟨nH s.Main, true, nH s.Other⟩ = 1
    · cases h2 : slt (tHand (nH s.Other)) (tHand (nH s.Main)) <;> simp [h1, h2]
    · rw [beq_eq_false_iff_ne.2 h1]
      simp [h1]
end Go.Proofs.XC
