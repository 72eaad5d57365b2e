/- Plain laws of the plain functions: no program, no memory. By AI agents; no person has read it. -/
import Derived.Test.YtldkmmopfhhdgaaGreatDoorPK3
set_option linter.unusedVariables false
set_option linter.unusedSimpArgs false
set_option maxRecDepth 100000
set_option maxHeartbeats 40000000
namespace Go.Proofs.XC
open Go Go.RowKit
/-! ### Two hands are a sign -/
theorem big_eq (c d : List Int) : ∃ v, X.l_big c d = some v := by
  unfold X.l_big
  cases decide ((List.length c : Int) > 1048576)
  · exact ⟨_, rfl⟩
  · exact ⟨_, rfl⟩
theorem okB8_of {c : List Int} (h : okL okY c) : okB8 c := fun x hx => h.2 x hx
def vTwo (a b : Hand) : Sign × Bool := if gSign ⟨a, true, b⟩ = true then (⟨a, true, b⟩, true) else (zSign, false)
theorem i_Two_eq {k : Nat} {a b : Hand} (ha : small a) (hb : small b) (hk : 10 ≤ k) : X.i_TwoHands k a b = some (vTwo a b) := by
  unfold X.i_TwoHands vTwo
  rw [i_IsSign_eq (s := ⟨a, true, b⟩) ⟨ha, hb⟩ hk, bind_some]
  cases gSign ⟨a, true, b⟩ <;> rfl
theorem s_Two_eq {k : Nat} {a b : Hand} (ha : small a) (hb : small b) (hk : 2000010 ≤ k) : X.s_TwoHands k a b = some (vTwo a b) := by
  unfold X.s_TwoHands vTwo
  rw [s_siGood_eq (s := ⟨a, true, b⟩) ⟨ha, hb⟩ hk, bind_some]
  cases gSign ⟨a, true, b⟩ <;> rfl
def vBR (a b : Hand) : Int × Bool := if (gHand a && gHand b) = true then (vBroken a b, true) else (0, false)
theorem s_BR_eq {k : Nat} {a b : Hand} (ha : small a) (hb : small b) (hk : 2000010 ≤ k) : X.s_BrokenRule k a b = some (vBR a b) := by
  unfold X.s_BrokenRule vBR
  rw [s_siHand_eq k a ha hk, s_siHand_eq k b hb hk, bind_some, bind_some]
  cases h1 : gHand a
  · rfl
  cases h2 : gHand b
  · rfl
  rw [s_siBroken_eq (gHand_iff.1 h1).2.2.2 (gHand_iff.1 h2).2.2.2 (by omega)]
  rfl
theorem i_BR_eq {k : Nat} {a b : Hand} (ha : small a) (hb : small b) (hk : 2000010 ≤ k) : X.i_BrokenRule k a b = some (vBR a b) := by
  unfold X.i_BrokenRule vBR
  rw [i_IsHand_eq a ha, i_IsHand_eq b hb, bind_some, bind_some]
  cases h1 : gHand a
  · rfl
  cases h2 : gHand b
  · rfl
  obtain ⟨q, rfl⟩ : ∃ q, k = q + 6 := ⟨k - 6, by omega⟩
  rw [i_keepRules_eq q (gHand_iff.1 h1).2.2.2 (gHand_iff.1 h2).2.2.2, bind_some]
  have hb0 := vBroken_iff a b
  cases hk : gKeep a b
  · rw [hk] at hb0
    have hne : vBroken a b ≠ 0 := by simpa using hb0
    simp only [moves_eq, i_mirO_eq, bind_some, qShape_iff, qOrient_iff, isEmpty_iff', Bool.not_true, Bool.not_false, cond_true, cond_false, Bool.and_self, if_true]
    unfold vBroken at hne ⊢
    by_cases h3 : b.Move.Steps = []
    · rw [if_pos h3] at hne ⊢
      by_cases h4 : a.Shape = b.Shape ∨ b.Shape ∈ plainL
      · rw [if_pos h4] at hne; exact absurd rfl hne
      · rw [if_neg h4]; simp [h3]
    · rw [if_neg h3] at hne ⊢
      by_cases h4 : a.Move.Steps = []
      · rw [if_pos h4]; simp [h3, h4]
      · rw [if_neg h4] at hne ⊢
        by_cases h5 : a.Shape = b.Shape
        · have e2 : (b.Orient = a.Orient) ↔ (a.Orient = b.Orient) := eq_comm
          have e3 : (b.Orient = mirO a.Orient) ↔ (a.Orient = mirO b.Orient) := (mirO_eq_iff _ _).symm.trans Iff.rfl |>.symm.symm
          by_cases h6 : a.Orient = b.Orient <;> by_cases h7 : a.Orient = mirO b.Orient <;> by_cases h8 : allSteps a.Move = allSteps b.Move <;> by_cases h9 : allSteps (mirM a.Move) = allSteps b.Move <;> simp [h3, h4, h5, h6, h7, h8, h9, e2, e3, mirO_mirO] at hne ⊢
        · simp [h3, h4, h5]
  · rw [hk] at hb0
    have : vBroken a b = 0 := by simpa using hb0
    simp [this]
def vKind (s : Sign) : Int × Bool := if gSign s = true then (kind s, true) else (0, false)
theorem i_Kind_eq {k : Nat} {s : Sign} (hs : smallS s) (hk : 10 ≤ k) : X.i_KindOfSign k s = some (vKind s) := by
  unfold X.i_KindOfSign vKind
  rw [i_IsSign_eq hs hk, i_kind_eq, bind_some]
  cases gSign s <;> rfl
theorem s_Kind_eq {k : Nat} {s : Sign} (hs : smallS s) (hk : 2000010 ≤ k) : X.s_KindOfSign k s = some (vKind s) := by
  unfold X.s_KindOfSign vKind
  rw [s_siGood_eq hs hk, s_kind_eq, bind_some]
  cases gSign s <;> rfl
def vDrop (s : Sign) : Sign × Bool := if gSign s = true ∧ kind s ≠ 0 ∧ kind s ≠ 3 then ({ zSign with Main := s.Main }, true) else (zSign, false)
theorem i_Drop_eq {k : Nat} {s : Sign} (hs : smallS s) (hk : 10 ≤ k) : X.i_DropOther k s = some (vDrop s) := by
  unfold X.i_DropOther vDrop
  rw [i_IsSign_eq hs hk, i_kind_eq, bind_some]
  cases gSign s
  · rfl
  · simp only [beq_dec]
    by_cases h1 : kind s = 0 <;> by_cases h2 : kind s = 3 <;> simp [h1, h2]
theorem s_Drop_eq {k : Nat} {s : Sign} (hs : smallS s) (hk : 2000010 ≤ k) : X.s_DropOther k s = some (vDrop s) := by
  unfold X.s_DropOther vDrop
  rw [s_siGood_eq hs hk, s_kind_eq, bind_some]
  cases gSign s
  · rfl
  · simp only [beq_dec]
    by_cases h1 : kind s = 0 <;> by_cases h2 : kind s = 3 <;> simp [h1, h2]
def vSt (s : Sign) : Int × Bool := if gSign s = true then ((stepsS s : Int), true) else (0, false)
theorem i_St_eq {k : Nat} {s : Sign} (hs : smallS s) (hk : 10 ≤ k) : X.i_StepsOfSign k s = some (vSt s) := by
  unfold X.i_StepsOfSign vSt
  rw [i_IsSign_eq hs hk, bind_some]
  cases h : gSign s
  · rfl
  · simp only [Bool.not_true, cond_false, if_true]
    rw [i_steps_eq h]
    rfl
theorem s_St_eq {k : Nat} {s : Sign} (hs : smallS s) (hk : 2000010 ≤ k) : X.s_StepsOfSign k s = some (vSt s) := by
  unfold X.s_StepsOfSign vSt
  rw [s_siGood_eq hs hk, bind_some]
  cases h : gSign s
  · rfl
  · simp only [Bool.not_true, cond_false, if_true]
    rw [s_mvAll_eq (gHand_iff.1 (gSign_main h)).2.2.2 (by omega), bind_some, s_all_other h (by omega), bind_some]
    unfold X.s_l1Most stepsS
    by_cases hh : ((allSteps s.Main.Move).length : Int) > ((allSteps s.Other.Move).length : Int)
    · rw [decide_eq_true hh, cond_true, bind_some]
      congr 2
      omega
    · rw [decide_eq_false hh, cond_false, bind_some]
      congr 2
      omega
def vOne (h : Hand) : Sign × Bool := if gHand h = true then ({ zSign with Main := h }, true) else (zSign, false)
theorem i_One_eq {h : Hand} (hs : small h) : X.i_OneHand h = some (vOne h) := by
  unfold X.i_OneHand vOne
  rw [i_IsHand_eq h hs, bind_some]
  cases gHand h <;> rfl
theorem s_One_eq {k : Nat} {h : Hand} (hs : small h) (hk : 2000010 ≤ k) : X.s_OneHand k h = some (vOne h) := by
  unfold X.s_OneHand vOne
  rw [s_siHand_eq k h hs hk, bind_some]
  cases gHand h <;> rfl
theorem gSign_one {h : Hand} (hg : gHand h = true) : gSign { zSign with Main := h } = true := by
  unfold gSign
  show (gHand h && _) = true
  rw [hg]
  rfl
theorem i_All_eq {m : Move} (hl : m.Steps.length ≤ 2000000) (hg : gMove m = true) : X.i_AllSteps m = some (allSteps m, true) := by
  unfold X.i_AllSteps
  rw [i_IsMove_eq m hl, bind_some, hg, i_Move_all_eq hg]
  rfl
theorem bindB {α β : Type} {o : Option α} {v : α} {F : α → Option β} {r : Option β} (h : o = some v) (hF : F v = r) : Option.bind o F = r := by
  rw [h]
  exact hF
theorem orElB {ρ σ β : Type} {o : Option (ρ ⊕ σ)} {v : σ} {G : ρ → Option β} {F : σ → Option β} {r : Option β} (h : o = some (.inr v)) (hF : F v = r) : orEl o G F = r := by
  rw [h]
  exact hF
theorem Pure.FnSigns (c : List Int) (o_c : okL okY c) (d : List Int) (o_d : okL okY d) : X.l_FnSigns 3000000 c d = some true := by
  have hc := okB8_of o_c
  have hd := okB8_of o_d
  unfold X.l_FnSigns
  obtain ⟨v, hv⟩ := big_eq c d
  rw [hv, bind_some]
  cases v with
  | true => rfl
  | false =>
  rw [cond_false]
  obtain ⟨a, b, e, ha, hb⟩ := two_ex (k := 3000000) hc (by omega)
  rw [e, bind_some]
  dsimp only
  have sa := tiny_small ha
  have sb := tiny_small hb
  have ss : smallS ⟨a, true, b⟩ := ⟨sa, sb⟩
  rw [i_Two_eq sa sb (by omega), bind_some, s_Two_eq sa sb (by omega), bind_some, i_BR_eq sa sb (by omega), bind_some, s_BR_eq sa sb (by omega), bind_some]
  have hg : gSign ⟨a, true, b⟩ = (gHand a && (gHand b && gKeep a b)) := rfl
  have hbk := vBroken_iff a b
  refine bindB (v := false) ?_ ?_
  · rw [i_IsHand_eq a sa, i_IsHand_eq b sb]
    simp only [bind_some, qSign_iff]
    unfold vTwo vBR
    rw [hg]
    cases h1 : gHand a <;> cases h2 : gHand b <;> cases h3 : gKeep a b <;> simp_all
  rw [cond_false]
  refine orElB (v := ()) ?_ ?_
  · unfold vTwo
    cases h : gSign ⟨a, true, b⟩
    · rfl
    · simp only [if_true, cond_true]
      have hga : gHand a = true := by rw [hg] at h; simp at h; exact h.1
      rw [i_Kind_eq ss (by omega), bind_some, s_Kind_eq ss (by omega), bind_some, i_Drop_eq ss (by omega), bind_some, i_One_eq sa, bind_some, i_IsSign_eq ss (by omega), bind_some, h]
      refine bindB (v := false) ?_ rfl
      unfold vKind vDrop vOne
      rw [h, hga]
      have hk : kind ⟨a, true, b⟩ = if b.Move.Steps ≠ [] then 1 else if a.Shape = b.Shape then 2 else 3 := rfl
      rw [hk]
      simp only [qSign_iff, seq_eq]
      by_cases h1 : b.Move.Steps = [] <;> by_cases h2 : a.Shape = b.Shape <;> simp [h1, h2]
  obtain ⟨u, e, hu⟩ := dropOther_ex (k := 3000000) hd (by omega)
  have su := tinyS_small hu
  rw [e, bind_some, i_Drop_eq su (by omega), bind_some, s_Drop_eq su (by omega), bind_some, i_Kind_eq su (by omega), bind_some, s_Kind_eq su (by omega), bind_some, i_St_eq su (by omega), bind_some, s_St_eq su (by omega), bind_some]
  refine bindB (v := false) ?_ ?_
  · rw [i_IsSign_eq su (by omega)]
    simp only [bind_some, qSign_iff]
    unfold vDrop vKind vSt
    cases h : gSign u
    · simp
    · by_cases h1 : kind u = 0 <;> by_cases h2 : kind u = 3 <;> simp [h1, h2]
  rw [cond_false]
  refine orElB (v := ()) ?_ ?_
  · unfold vKind vSt
    cases h : gSign u
    · rfl
    · have hm := (gHand_iff.1 (gSign_main h)).2.2.2
      simp only [if_true, cond_true]
      rw [i_All_eq (by have := hu.1.1; omega) hm, bind_some]
      refine bindB (v := false) ?_ rfl
      have h0 : decide ((stepsS u : Int) < ((allSteps u.Main.Move).length : Int)) = false := decide_eq_false (by unfold stepsS; omega)
      simp only [Bool.not_true, cond_false, h0]
      cases h2 : u.Two
      · have hk : kind u = 0 := by unfold kind; rw [if_pos h2]
        have hz : u.Other = zHand := gSign_none h h2
        have hs : stepsS u = (allSteps u.Main.Move).length := by
          unfold stepsS
          rw [hz]
          have : (allSteps zHand.Move).length = 0 := by decide
          omega
        rw [hk, hs]
        simp
      · have hk : kind u ≠ 0 := by
          unfold kind
          rw [h2]
          by_cases h1 : u.Other.Move.Steps = [] <;> by_cases h2 : u.Main.Shape = u.Other.Shape <;> simp [h1, h2]
        have : (kind u == 0) = false := by simpa using hk
        rw [this]
        rfl
  obtain ⟨w, e, hw⟩ := oneHand_ex (k := 3000000) hd (by omega)
  have sw := tiny_small hw
  rw [e, bind_some, i_One_eq sw, bind_some, s_One_eq sw (by omega), bind_some, i_IsHand_eq w sw]
  simp only [bind_some, qSign_iff, qHand_iff]
  unfold vOne
  cases h : gHand w
  · simp
  · have := gSign_one h
    rw [if_pos rfl, i_IsSign_eq (s := { zSign with Main := w }) ⟨sw, tiny_small z_tiny⟩ (by omega), this]
    simp
    rfl
end Go.Proofs.XC
