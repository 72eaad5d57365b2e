/- Plain laws of the plain functions: no program, no memory. By AI agents; no person has read it. -/
import Derived.Test.YtldkmmopfhhdgaaGreatDoorPL1
import Derived.Test.YtldkmmopfhhdgaaGreatDoorPE2
set_option linter.unusedVariables false
set_option linter.unusedSimpArgs false
set_option maxRecDepth 100000
set_option maxHeartbeats 40000000
namespace Go.Proofs.XC
open Go Go.RowKit
/-! ### Distances -/
theorem gMove_small {m : Move} (h : gMove m = true) : m.Steps.length ≤ 2000000 := by have := (gMove_iff.1 h).1; omega
theorem nS_small {s : Sign} (g : gSign s = true) : smallS (nS s) := by
  obtain ⟨a1, a2, a3⟩ := nS_isN g
  refine ⟨gMove_small (gHand_iff.1 (isN_good a1)).2.2.2, ?_⟩
  cases h : (nS s).Two
  · rw [a3 h]; exact tiny_small z_tiny
  · exact gMove_small (gHand_iff.1 (isN_good (a2 h))).2.2.2
theorem s_mvGood_eq' {k : Nat} (m : Move) (sm : tinyM m) (hk : 2000010 ≤ k) : X.s_mvGood k m = some (gMove m) := s_mvGood_eq k m (by have := sm.1; omega) hk
theorem signDist_ex {c : List Int} {k : Nat} (hc : okB8 c) (hk : 2000010 ≤ k) : ∃ a b, X.s_DrawSignDistance k c = some (a, b) ∧ smallS a ∧ smallS b := by
  unfold X.s_DrawSignDistance
  obtain ⟨a, t, s, e, h, ha⟩ := anySign_ex (s := 0) hc Bg.start (by omega) hk
  have sa := tinyS_small ha
  rw [e, bind_some]
  dsimp only
  rw [s_siGood_eq sa hk, bind_some]
  have hmore : ∀ (t s : Int), Bg (1000000 - 400 - 2) t → ∃ x y, (Option.bind (X.s_l1Cur_anySign k c t s) fun v5_2 => some (a, v5_2.1)) = some (x, y) ∧ smallS x ∧ smallS y := by
    intro t s h
    obtain ⟨b, t, s, e, h, hb⟩ := anySign_ex (s := s) hc h (by omega) hk
    rw [e]
    exact ⟨a, b, rfl, sa, tinyS_small hb⟩
  cases g : gSign a
  · exact hmore _ _ (h.le (by omega))
  · obtain ⟨v, t, s, e, h, _⟩ := one_ex (s := s) (n := 2) hc h (by omega)
    rw [cond_true, e, bind_some]
    dsimp only
    cases v
    · exact hmore _ _ h
    · rw [cond_true, s_noForm_eq g (by omega)]
      exact ⟨a, nS a, rfl, sa, nS_small g⟩
theorem handDist_ex {c : List Int} {k : Nat} (hc : okB8 c) (hk : 20 ≤ k) : ∃ a b, X.s_DrawHandDistance k c = some (a, b) ∧ tinyH a ∧ tinyH b := by
  unfold X.s_DrawHandDistance
  obtain ⟨a, t, s, e, h, ha⟩ := anyHand_ex (s := 0) hc Bg.start (by omega) hk
  rw [e, bind_some]
  dsimp only
  obtain ⟨v, t, s, e, h, _⟩ := one_ex (s := s) (n := 2) hc h (by omega)
  rw [e, bind_some]
  dsimp only
  cases v
  · obtain ⟨b, t, s, e, h, hb⟩ := anyHand_ex (s := s) hc h (by omega) hk
    rw [cond_false, e]
    exact ⟨a, b, rfl, ha, hb⟩
  · obtain ⟨v, t, s, e, h, _⟩ := pick_ex (s := s) (n := 3) hc h (by omega)
    rw [cond_true, e, bind_some]
    dsimp only
    cases v == 0
    · cases v == 1
      · exact ⟨a, a, rfl, ha, ha⟩
      · obtain ⟨b, t, s, e, h, hb⟩ := move_ex (k := k) (s := s) hc h (by omega) (by omega)
        rw [cond_false, cond_true, e]
        exact ⟨a, { a with Move := b }, rfl, ha, tiny_of hb⟩
    · obtain ⟨b, t, s, e, h, hb⟩ := place_ex (k := k) (s := s) hc h (by omega) hk
      rw [cond_true, e]
      exact ⟨a, { a with Place := b }, rfl, ha, ha⟩
theorem stepDist_ex {c : List Int} {k : Nat} (hc : okB8 c) (hk : 2000010 ≤ k) : ∃ a b, X.s_DrawStepDistance k c = some (a, b) ∧ tinyM a ∧ tinyM b := by
  unfold X.s_DrawStepDistance X.s_DrawSameMove
  obtain ⟨a, t, s, e, h, ha⟩ := anyMove_ex (k := k) (s := 0) hc Bg.start (by omega) (by omega)
  rw [e, bind_some]
  dsimp only
  rw [s_mvGood_eq' a ha hk, bind_some]
  have hmore : ∀ (t s : Int), Bg (1000000 - 30 - 2) t → ∃ x y, (Option.bind (Option.bind (X.s_l1Cur_anyMove k c t s) fun v5_2 => some (a, v5_2.1)) fun v1_1 => some (v1_1.1, v1_1.2)) = some (x, y) ∧ tinyM x ∧ tinyM y := by
    intro t s h
    obtain ⟨b, t, s, e, h, hb⟩ := anyMove_ex (k := k) (s := s) hc h (by omega) (by omega)
    rw [e]
    exact ⟨a, b, rfl, ha, hb⟩
  cases g : gMove a
  · exact hmore _ _ (h.le (by omega))
  · obtain ⟨v, t, s, e, h, _⟩ := one_ex (s := s) (n := 2) hc h (by omega)
    rw [cond_true, e, bind_some]
    dsimp only
    cases v
    · exact hmore _ _ h
    · rw [cond_true, s_mvNormal_eq g (by omega)]
      exact ⟨a, nM a, rfl, ha, tiny_of (nMv_good g).1⟩
def comN (a b : Hand) : Int := ((([qShape a.Shape b.Shape, qOrient a.Orient b.Orient, qPlace a.Place b.Place, qMove a.Move b.Move] : List Bool).filter fun x => x).length : Int)
def vCom (a b : Sign) : Int × Bool := if (gSign a && gSign b) = true then (comN (nS a).Main (nS b).Main, true) else (0, false)
theorem i_common_eq (a b : Hand) : X.i_Hand_common a b = some (comN a b) := by
  unfold X.i_Hand_common X.i_Hand_same comN X.i_those_bool X.i_Hand_common_1
  cases qShape a.Shape b.Shape <;> cases qOrient a.Orient b.Orient <;> cases qPlace a.Place b.Place <;> cases qMove a.Move b.Move <;> rfl
theorem i_Com_eq {k : Nat} {a b : Sign} (sa : smallS a) (sb : smallS b) (hk : 10 ≤ k) : X.i_CommonParts k a b = some (vCom a b) := by
  unfold X.i_CommonParts vCom
  rw [i_IsSign_eq sa hk, i_IsSign_eq sb hk, bind_some, bind_some]
  cases h1 : gSign a
  · rfl
  cases h2 : gSign b
  · rfl
  simp only [Bool.not_true, cond_false, Bool.and_self, if_true]
  rw [i_normal_eq h1 hk, i_normal_eq h2 hk, bind_some, bind_some, i_common_eq]
  rfl
theorem s_Com_eq {k : Nat} {a b : Sign} (sa : smallS a) (sb : smallS b) (hk : 2000010 ≤ k) : X.s_CommonParts k a b = some (vCom a b) := by
  unfold X.s_CommonParts X.s_feBoth vCom
  rw [s_siGood_eq sa hk, s_siGood_eq sb hk, bind_some, bind_some]
  cases h1 : gSign a
  · rfl
  cases h2 : gSign b
  · rfl
  simp only [Bool.not_true, cond_false, cond_true, Bool.and_self, if_true, bind_some]
  rw [s_noForm_eq h1 (by omega), s_noForm_eq h2 (by omega)]
  simp only [bind_some]
  unfold comN
  generalize (nS a).Main = x
  generalize (nS b).Main = y
  cases qShape x.Shape y.Shape <;> cases qOrient x.Orient y.Orient <;> cases qPlace x.Place y.Place <;> cases qMove x.Move y.Move <;> rfl
theorem comN_self (a : Hand) : comN a a = 4 := by
  unfold comN
  rw [qShape_iff, qOrient_iff, qPlace_iff, qMove_iff]
  simp
def vHD (a b : Hand) : Int × Bool := if (gHand a && gHand b) = true then (farH a b, true) else (0, false)
theorem i_HD_eq {a b : Hand} (sa : small a) (sb : small b) : X.i_HandDistance a b = some (vHD a b) := by
  unfold X.i_HandDistance vHD
  rw [i_IsHand_eq a sa, i_IsHand_eq b sb, bind_some, bind_some]
  cases h1 : gHand a
  · rfl
  cases h2 : gHand b
  · rfl
  rw [(farH_eqs (k := 100) h1 h2 (by omega)).1]
  rfl
theorem s_HD_eq {k : Nat} {a b : Hand} (sa : small a) (sb : small b) (hk : 2000010 ≤ k) : X.s_HandDistance k a b = some (vHD a b) := by
  unfold X.s_HandDistance vHD
  rw [s_siHand_eq k a sa hk, s_siHand_eq k b sb hk, bind_some, bind_some]
  cases h1 : gHand a
  · rfl
  cases h2 : gHand b
  · rfl
  rw [(farH_eqs (k := k) h1 h2 (by omega)).2.1]
  rfl
def vSD (a b : Move) : Int × Bool := if (gMove a && gMove b) = true then (lev (allSteps a) (allSteps b), true) else (0, false)
theorem i_SD_eq {a b : Move} (sa : tinyM a) (sb : tinyM b) : X.i_StepDistance a b = some (vSD a b) := by
  unfold X.i_StepDistance vSD
  rw [i_IsMove_eq a (by have := sa.1; omega), i_IsMove_eq b (by have := sb.1; omega), bind_some, bind_some]
  cases h1 : gMove a
  · rfl
  cases h2 : gMove b
  · rfl
  have la := all_len h1
  have lb := all_len h2
  rw [i_Move_all_eq h1, i_Move_all_eq h2]
  simp only [Bool.not_true, cond_false, Bool.and_self, if_true, bind_some]
  rw [i_step_eq (by omega) (by omega)]
  rfl
theorem s_SD_eq {k : Nat} {a b : Move} (sa : tinyM a) (sb : tinyM b) (hk : 2000010 ≤ k) : X.s_StepDistance k a b = some (vSD a b) := by
  unfold X.s_StepDistance vSD
  rw [s_mvGood_eq' a sa hk, s_mvGood_eq' b sb hk, bind_some, bind_some]
  cases h1 : gMove a
  · rfl
  cases h2 : gMove b
  · rfl
  have la := all_len h1
  have lb := all_len h2
  rw [s_mvAll_eq h1 (by omega), s_mvAll_eq h2 (by omega)]
  simp only [Bool.not_true, cond_false, Bool.and_self, if_true, bind_some]
  rw [s_step_eq (by omega) (by omega) (by omega)]
  rfl
def vSame (a b : Sign) : Bool × Bool := if (gSign a && gSign b) = true then (decide (nS a = nS b), true) else (false, false)
theorem i_Same_eq {k : Nat} {a b : Sign} (sa : smallS a) (sb : smallS b) (hk : 10 ≤ k) : X.i_AreSameSign k a b = some (vSame a b) := by
  unfold X.i_AreSameSign vSame
  rw [i_IsSign_eq sa hk, i_IsSign_eq sb hk, bind_some, bind_some]
  cases h1 : gSign a
  · rfl
  cases h2 : gSign b
  · rfl
  simp only [Bool.not_true, cond_false, Bool.and_self, if_true]
  rw [i_normal_eq h1 hk, i_normal_eq h2 hk, bind_some, bind_some, qSign_iff]
theorem s_All_eq {k : Nat} {m : Move} (sm : tinyM m) (hg : gMove m = true) (hk : 2000010 ≤ k) : X.s_AllSteps k m = some (allSteps m, true) := by
  unfold X.s_AllSteps
  rw [s_mvGood_eq' m sm hk, bind_some, hg, s_mvAll_eq hg (by omega)]
  rfl
theorem Pure.FnDistances (c : List Int) (o_c : okL okY c) (d : List Int) (o_d : okL okY d) : X.l_FnDistances 3000000 c d = some true := by
  have hc := okB8_of o_c
  have hd := okB8_of o_d
  unfold X.l_FnDistances
  cases decide ((wr ((List.length c : Int) + (List.length d : Int))) > 1048576) with
  | true => rfl
  | false =>
  rw [cond_false]
  obtain ⟨a, b, e, sa, sb⟩ := signDist_ex (k := 3000000) hc (by omega)
  rw [e, bind_some]
  dsimp only
  rw [i_SignDistance_eq sa sb (by omega), bind_some, s_SignDistance_eq sa sb (by omega), bind_some, i_Com_eq sa sb (by omega), bind_some, s_Com_eq sa sb (by omega), bind_some]
  obtain ⟨x, y, e, hx, hy⟩ := handDist_ex (k := 3000000) hd (by omega)
  have sx := tiny_small hx
  have sy := tiny_small hy
  rw [e, bind_some]
  dsimp only
  rw [i_HD_eq sx sy, bind_some, s_HD_eq sx sy (by omega), bind_some]
  obtain ⟨m, n, e, hm, hn⟩ := stepDist_ex (k := 3000000) hd (by omega)
  rw [e, bind_some]
  dsimp only
  rw [i_SD_eq hm hn, bind_some, s_SD_eq hm hn (by omega), bind_some]
  refine bindB (v := false) ?_ ?_
  · unfold vFar vCom
    cases gSign a <;> cases gSign b <;> simp
  rw [cond_false]
  refine orElB (v := ()) ?_ ?_
  · rw [i_SignDistance_eq sb sa (by omega), i_Same_eq sa sb (by omega)]
    unfold vFar vCom vSame
    cases h1 : gSign a
    · rfl
    cases h2 : gSign b
    · rfl
    simp only [Bool.and_self, if_true, cond_true, bind_some, Bool.not_true, cond_false]
    refine bindB (v := false) ?_ rfl
    rw [farG_comm h2 h1]
    by_cases h : nS a = nS b
    · rw [(farG_zero h1 h2).2 h, h, comN_self]
      simp
    · have : (farG a b == 0) = false := beq_eq_false_iff_ne.2 fun e => h ((farG_zero h1 h2).1 e)
      rw [this, decide_eq_false h]
      simp
  refine orElB (v := ()) ?_ ?_
  · rw [i_HD_eq sy sx]
    unfold vHD
    cases h1 : gHand x
    · rfl
    cases h2 : gHand y
    · rfl
    simp only [Bool.and_self, if_true, cond_true, bind_some, Bool.not_true, cond_false]
    rw [farH_comm h2 h1]
    simp
  rw [i_SD_eq hn hm]
  unfold vSD
  cases h1 : gMove m
  · rfl
  cases h2 : gMove n
  · rfl
  have la := all_len h1
  have lb := all_len h2
  simp only [Bool.and_self, if_true, cond_true, bind_some, Bool.not_true, cond_false]
  rw [s_All_eq hm h1 (by omega), s_All_eq hn h2 (by omega), lev_comm (a := allSteps n) (by omega) (by omega)]
  have hge := lev_ge (a := allSteps m) (b := allSteps n) (by omega)
  have hz := lev_zero (a := allSteps m) (b := allSteps n) (by omega)
  have hw : wr (((allSteps m).length : Int) - ((allSteps n).length : Int)) = ((allSteps m).length : Int) - ((allSteps n).length : Int) := wr_of (by omega) (by omega)
  have hq : X.l_qAbs (wr (((allSteps m).length : Int) - ((allSteps n).length : Int))) = some (if ((allSteps m).length : Int) - ((allSteps n).length : Int) < 0 then ((allSteps n).length : Int) - ((allSteps m).length : Int) else ((allSteps m).length : Int) - ((allSteps n).length : Int)) := by
    rw [hw]
    unfold X.l_qAbs
    by_cases h : ((allSteps m).length : Int) - ((allSteps n).length : Int) < 0
    · rw [decide_eq_true h, cond_true, if_pos h, wr_of (by omega) (by omega)]
      congr 1
      omega
    · rw [decide_eq_false h, cond_false, if_neg h]
  simp only [bind_some, beq_self_eq_true, cond_true, hq]
  have hd2 : decide (lev (allSteps m) (allSteps n) ≥ (if ((allSteps m).length : Int) - ((allSteps n).length : Int) < 0 then ((allSteps n).length : Int) - ((allSteps m).length : Int) else ((allSteps m).length : Int) - ((allSteps n).length : Int))) = true := decide_eq_true (by split <;> omega)
  rw [hd2, cond_true, seq_eq]
  by_cases h : allSteps m = allSteps n
  · rw [hz.2 h, decide_eq_true h]; rfl
  · have : lev (allSteps m) (allSteps n) ≠ 0 := fun e => h (hz.1 e)
    rw [decide_eq_false h]
    simp [this]
end Go.Proofs.XC
