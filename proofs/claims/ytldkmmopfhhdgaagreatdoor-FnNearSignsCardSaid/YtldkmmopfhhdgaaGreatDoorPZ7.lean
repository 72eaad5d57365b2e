/- Plain laws of the plain functions: no program, no memory. By AI agents; no person has read it. -/
import Derived.Test.YtldkmmopfhhdgaaGreatDoorPZ6
set_option linter.unusedVariables false
set_option linter.unusedSimpArgs false
set_option maxRecDepth 100000
set_option maxHeartbeats 40000000
namespace Go.Proofs.XC
open Go Go.RowKit
def ab (x y : Int) : Int := if y - x > x - y then y - x else x - y
theorem ab_bd {x y : Int} (hx : -100 ≤ x ∧ x ≤ 100) (hy : -100 ≤ y ∧ y ≤ 100) : 0 ≤ ab x y ∧ ab x y ≤ 200 := by
  unfold ab
  split <;> constructor <;> omega
theorem i_distance_eq {x y : Int} (hx : -100 ≤ x ∧ x ≤ 100) (hy : -100 ≤ y ∧ y ≤ 100) : X.i_distance x y = some (ab x y) := by
  unfold X.i_distance ab
  rw [wr_of (z := y - x) (by omega) (by omega), wr_of (z := x - y) (by omega) (by omega)]
theorem s_abs_eq {x y : Int} (hx : -100 ≤ x ∧ x ≤ 100) (hy : -100 ≤ y ∧ y ≤ 100) : X.s_l1Abs (wr (x - y)) = some (ab x y) := by
  unfold X.s_l1Abs X.s_l1Most ab
  rw [wr_of (z := x - y) (by omega) (by omega), wr_of (z := 0 - (x - y)) (by omega) (by omega)]
  by_cases h : y - x > x - y
  · have : decide (x - y > 0 - (x - y)) = false := by simp; omega
    rw [this, if_pos h]
    simp only [cond_false, bind_some]
    congr 1
    omega
  · rw [if_neg h]
    by_cases h2 : x - y > 0 - (x - y)
    · rw [decide_eq_true h2]
      rfl
    · simp only [h2, decide_false, cond_false, bind_some]
      congr 1
      omega
def bi (b : Bool) : Int := if b then 1 else 0
def farS (a b : Shape) : Int := ab a.Index b.Index + ab a.Middle b.Middle + ab a.Ring b.Ring + ab a.Little b.Little + bi (!(decide (a.Thumb = b.Thumb))) + bi (!(a.Spread == b.Spread))
theorem bi_bd (b : Bool) : 0 ≤ bi b ∧ bi b ≤ 1 := by cases b <;> simp [bi]
theorem farS_eqs {a b : Shape} (ga : gShape a = true) (gb : gShape b = true) : X.i_Shape_distance a b = some (farS a b) ∧ X.s_shFar a b = some (farS a b) ∧ 0 ≤ farS a b ∧ farS a b ≤ 1000 := by
  obtain ⟨_, a1, a2, a3, a4, _⟩ := gShape_iff.1 ga
  obtain ⟨_, b1, b2, b3, b4, _⟩ := gShape_iff.1 gb
  have d1 := ab_bd (x := a.Index) (y := b.Index) (by omega) (by omega)
  have d2 := ab_bd (x := a.Middle) (y := b.Middle) (by omega) (by omega)
  have d3 := ab_bd (x := a.Ring) (y := b.Ring) (by omega) (by omega)
  have d4 := ab_bd (x := a.Little) (y := b.Little) (by omega) (by omega)
  have t1 := bi_bd (!(decide (a.Thumb = b.Thumb)))
  have t2 := bi_bd (!(a.Spread == b.Spread))
  have e1 := i_distance_eq (x := a.Index) (y := b.Index) (by omega) (by omega)
  have e2 := i_distance_eq (x := a.Middle) (y := b.Middle) (by omega) (by omega)
  have e3 := i_distance_eq (x := a.Ring) (y := b.Ring) (by omega) (by omega)
  have e4 := i_distance_eq (x := a.Little) (y := b.Little) (by omega) (by omega)
  have f1 := s_abs_eq (x := a.Index) (y := b.Index) (by omega) (by omega)
  have f2 := s_abs_eq (x := a.Middle) (y := b.Middle) (by omega) (by omega)
  have f3 := s_abs_eq (x := a.Ring) (y := b.Ring) (by omega) (by omega)
  have f4 := s_abs_eq (x := a.Little) (y := b.Little) (by omega) (by omega)
  have w1 : wr (0 + ab a.Index b.Index) = ab a.Index b.Index := by rw [wr_of (by omega) (by omega)]; omega
  have w2 : wr (ab a.Index b.Index + ab a.Middle b.Middle) = ab a.Index b.Index + ab a.Middle b.Middle := wr_of (by omega) (by omega)
  have w3 : wr (ab a.Index b.Index + ab a.Middle b.Middle + ab a.Ring b.Ring) = ab a.Index b.Index + ab a.Middle b.Middle + ab a.Ring b.Ring := wr_of (by omega) (by omega)
  have w4 : wr (ab a.Index b.Index + ab a.Middle b.Middle + ab a.Ring b.Ring + ab a.Little b.Little) = ab a.Index b.Index + ab a.Middle b.Middle + ab a.Ring b.Ring + ab a.Little b.Little := wr_of (by omega) (by omega)
  have w5 : wr (ab a.Index b.Index + ab a.Middle b.Middle + ab a.Ring b.Ring + ab a.Little b.Little + 1) = ab a.Index b.Index + ab a.Middle b.Middle + ab a.Ring b.Ring + ab a.Little b.Little + 1 := wr_of (by omega) (by omega)
  have w6 : wr (ab a.Index b.Index + ab a.Middle b.Middle + ab a.Ring b.Ring + ab a.Little b.Little + 1 + 1) = ab a.Index b.Index + ab a.Middle b.Middle + ab a.Ring b.Ring + ab a.Little b.Little + 1 + 1 := wr_of (by omega) (by omega)
  have g0 : ∀ p q r s : Int, getI [p, q, r, s] ((0 : Nat) : Int) = some p := fun _ _ _ _ => rfl
  have g1 : ∀ p q r s : Int, getI [p, q, r, s] ((0 + 1 : Nat) : Int) = some q := fun _ _ _ _ => rfl
  have g2 : ∀ p q r s : Int, getI [p, q, r, s] ((0 + 1 + 1 : Nat) : Int) = some r := fun _ _ _ _ => rfl
  have g3 : ∀ p q r s : Int, getI [p, q, r, s] ((0 + 1 + 1 + 1 : Nat) : Int) = some s := fun _ _ _ _ => rfl
  refine ⟨?_, ?_, ?_, ?_⟩
  · unfold X.i_Shape_distance X.i_Shape_bends farS
    simp only [bind_some, rangeM_cons, rangeM_nil, g0, g1, g2, g3, e1, e2, e3, e4, w1, w2, w3, w4, w5, w6, bne, beq_dec]
    by_cases h : a.Thumb = b.Thumb <;> cases h2 : a.Spread == b.Spread <;> simp [h, bi]
  · unfold X.s_shFar X.s_shFingers farS
    simp only [bind_some, rangeM_cons, rangeM_nil, g0, g1, g2, g3, f1, f2, f3, f4, w1, w2, w3, w4, w5, w6, bne, beq_dec]
    by_cases h : a.Thumb = b.Thumb <;> cases h2 : a.Spread == b.Spread <;> simp [h, bi]
  · unfold farS; omega
  · unfold farS; omega
def farP (a b : Place) : Int := ab a.Side b.Side + bi (!(a.Contact == b.Contact)) + (if (a.Region == 0) == (b.Region == 0) then ab a.Region b.Region else 4)
theorem farP_eqs {a b : Place} (ga : gPlace a = true) (gb : gPlace b = true) : X.i_Place_distance a b = some (farP a b) ∧ X.s_plFar a b = some (farP a b) ∧ 0 ≤ farP a b ∧ farP a b ≤ 1000 := by
  obtain ⟨a1, a2, _⟩ := gPlace_iff.1 ga
  obtain ⟨b1, b2, _⟩ := gPlace_iff.1 gb
  have d1 := ab_bd (x := a.Side) (y := b.Side) (by omega) (by omega)
  have d2 := ab_bd (x := a.Region) (y := b.Region) (by omega) (by omega)
  have e1 := i_distance_eq (x := a.Side) (y := b.Side) (by omega) (by omega)
  have e2 := i_distance_eq (x := a.Region) (y := b.Region) (by omega) (by omega)
  have f1 := s_abs_eq (x := a.Side) (y := b.Side) (by omega) (by omega)
  have f2 := s_abs_eq (x := a.Region) (y := b.Region) (by omega) (by omega)
  have t1 := bi_bd (!(a.Contact == b.Contact))
  have w1 : wr (ab a.Side b.Side + 1) = ab a.Side b.Side + 1 := wr_of (by omega) (by omega)
  have w2 : wr (ab a.Side b.Side + 1 + 4) = ab a.Side b.Side + 1 + 4 := wr_of (by omega) (by omega)
  have w3 : wr (ab a.Side b.Side + 4) = ab a.Side b.Side + 4 := wr_of (by omega) (by omega)
  have w4 : wr (ab a.Side b.Side + 1 + ab a.Region b.Region) = ab a.Side b.Side + 1 + ab a.Region b.Region := wr_of (by omega) (by omega)
  have w5 : wr (ab a.Side b.Side + ab a.Region b.Region) = ab a.Side b.Side + ab a.Region b.Region := wr_of (by omega) (by omega)
  refine ⟨?_, ?_, ?_, ?_⟩
  · unfold X.i_Place_distance farP
    simp only [bind_some, e1, e2, w1, w2, w3, w4, w5]
    cases h : a.Contact == b.Contact <;> cases h2 : ((a.Region == 0) == (b.Region == 0)) <;> simp [bi]
  · unfold X.s_plFar farP
    simp only [bind_some, f1, f2, w1, w2, w3, w4, w5]
    cases h : a.Contact == b.Contact <;> cases h2 : ((a.Region == 0) == (b.Region == 0)) <;> simp [bi]
  · unfold farP; split <;> omega
  · unfold farP; split <;> omega
def farH (a b : Hand) : Int := farS a.Shape b.Shape + farP a.Place b.Place + lev (allSteps a.Move) (allSteps b.Move) + bi (!(decide (a.Orient.Palm = b.Orient.Palm))) + bi (!(decide (a.Orient.Fingers = b.Orient.Fingers)))
theorem farH_eqs {k : Nat} {a b : Hand} (ga : gHand a = true) (gb : gHand b = true) (hk : 100 ≤ k) : X.i_Hand_distance a b = some (farH a b) ∧ X.s_feHand k a b = some (farH a b) ∧ 0 ≤ farH a b ∧ farH a b ≤ 20000 := by
  obtain ⟨a1, _, a3, a4⟩ := gHand_iff.1 ga
  obtain ⟨b1, _, b3, b4⟩ := gHand_iff.1 gb
  obtain ⟨s1, s2, s3, s4⟩ := farS_eqs a1 b1
  obtain ⟨p1, p2, p3, p4⟩ := farP_eqs a3 b3
  have la := all_len a4
  have lb := all_len b4
  have l1 := i_step_eq (a := allSteps a.Move) (b := allSteps b.Move) (by omega) (by omega)
  have l2 := s_step_eq (k := k) (a := allSteps a.Move) (b := allSteps b.Move) (by omega) (by omega) hk
  have l3 := lev_bd (a := allSteps a.Move) (b := allSteps b.Move) (by omega) (by omega)
  have t1 := bi_bd (!(decide (a.Orient.Palm = b.Orient.Palm)))
  have t2 := bi_bd (!(decide (a.Orient.Fingers = b.Orient.Fingers)))
  generalize hS : farS a.Shape b.Shape = S at *
  generalize hP : farP a.Place b.Place = P at *
  generalize hL : lev (allSteps a.Move) (allSteps b.Move) = L at *
  have w1 : wr (S + P) = S + P := wr_of (by omega) (by omega)
  have w2 : wr (S + P + L) = S + P + L := wr_of (by omega) (by omega)
  have w3 : wr (S + P + L + 1) = S + P + L + 1 := wr_of (by omega) (by omega)
  have w4 : wr (S + P + L + 1 + 1) = S + P + L + 1 + 1 := wr_of (by omega) (by omega)
  refine ⟨?_, ?_, ?_, ?_⟩
  · unfold X.i_Hand_distance farH
    simp only [s1, p1, i_Move_all_eq a4, i_Move_all_eq b4, l1, bind_some, w1, w2, w3, w4, hS, hP, hL, bne, beq_dec]
    by_cases h : a.Orient.Palm = b.Orient.Palm <;> by_cases h2 : a.Orient.Fingers = b.Orient.Fingers <;> simp [h, h2, bi]
  · unfold X.s_feHand farH
    simp only [s2, p2, s_mvAll_eq a4 (show 4 ≤ k by omega), s_mvAll_eq b4 (show 4 ≤ k by omega), l2, bind_some, w1, w2, w3, w4, hS, hP, hL, bne, beq_dec]
    by_cases h : a.Orient.Palm = b.Orient.Palm <;> by_cases h2 : a.Orient.Fingers = b.Orient.Fingers <;> simp [h, h2, bi]
  · unfold farH; omega
  · unfold farH; omega
def farN (a b : Sign) : Int := farH a.Main b.Main + (if a.Two && b.Two then farH a.Other b.Other else if a.Two == b.Two then 0 else 6)
def farG (a b : Sign) : Int := farN (nS a) (nS b)
theorem farG_eqs {k : Nat} {a b : Sign} (ga : gSign a = true) (gb : gSign b = true) (hk : 100 ≤ k) : X.i_Sign_distance k a b = some (farG a b) ∧ X.s_feFar k a b = some (farG a b) ∧ 0 ≤ farG a b ∧ farG a b ≤ 100000 := by
  obtain ⟨m1, m2, m3, m4⟩ := farH_eqs (k := k) (nS_main ga) (nS_main gb) hk
  have hO : a.Two = true → b.Two = true → X.i_Hand_distance (nS a).Other (nS b).Other = some (farH (nS a).Other (nS b).Other) ∧ X.s_feHand k (nS a).Other (nS b).Other = some (farH (nS a).Other (nS b).Other) ∧ 0 ≤ farH (nS a).Other (nS b).Other ∧ farH (nS a).Other (nS b).Other ≤ 20000 := fun h1 h2 => farH_eqs (nS_other ga h1) (nS_other gb h2) hk
  have w6 : wr (farH (nS a).Main (nS b).Main + 6) = farH (nS a).Main (nS b).Main + 6 := wr_of (by omega) (by omega)
  unfold X.i_Sign_distance X.s_feFar farG farN
  simp only [i_normal_eq ga (show 10 ≤ k by omega), i_normal_eq gb (show 10 ≤ k by omega), s_noForm_eq ga (show 10 ≤ k by omega), s_noForm_eq gb (show 10 ≤ k by omega), bind_some, m1, m2, nS_two, w6]
  cases h1 : a.Two <;> cases h2 : b.Two
  · simp; omega
  · simp; omega
  · simp; omega
  · obtain ⟨o1, o2, o3, o4⟩ := hO h1 h2
    have w : wr (farH (nS a).Main (nS b).Main + farH (nS a).Other (nS b).Other) = farH (nS a).Main (nS b).Main + farH (nS a).Other (nS b).Other := wr_of (by omega) (by omega)
    simp only [cond_true, o1, o2, bind_some, w, Bool.and_self, if_true]
    exact ⟨trivial, trivial, by omega, by omega⟩
def vFar (a b : Sign) : Int × Bool := if gSign a && gSign b then (farG a b, true) else (0, false)
theorem i_SignDistance_eq {k : Nat} {a b : Sign} (ha : smallS a) (hb : smallS b) (hk : 100 ≤ k) : X.i_SignDistance k a b = some (vFar a b) := by
  unfold X.i_SignDistance vFar
  rw [i_IsSign_eq ha (by omega), i_IsSign_eq hb (by omega)]
  cases h1 : gSign a <;> cases h2 : gSign b <;> simp only [bind_some, Bool.not_true, Bool.not_false, cond_true, cond_false, Bool.and_self, Bool.and_true, Bool.and_false, Bool.true_and, Bool.false_and, if_true, Bool.false_eq_true, if_false]
  rw [(farG_eqs h1 h2 hk).1]
  rfl
theorem s_SignDistance_eq {k : Nat} {a b : Sign} (ha : smallS a) (hb : smallS b) (hk : 2000010 ≤ k) : X.s_SignDistance k a b = some (vFar a b) := by
  unfold X.s_SignDistance X.s_feBoth vFar
  rw [s_siGood_eq ha hk, s_siGood_eq hb hk]
  cases h1 : gSign a <;> cases h2 : gSign b <;> simp only [bind_some, Bool.not_true, Bool.not_false, cond_true, cond_false, Bool.and_self, Bool.and_true, Bool.and_false, Bool.true_and, Bool.false_and, if_true, Bool.false_eq_true, if_false]
  rw [(farG_eqs h1 h2 (show 100 ≤ k by omega)).2.1]
  rfl
end Go.Proofs.XC
