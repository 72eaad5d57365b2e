/- Plain laws of the plain functions: no program, no memory. By AI agents; no person has read it. -/
import Derived.Test.YtjjhlccjfdcfcaaGreatDoorPZ3
import Derived.Test.YtjjhlccjfdcfcaaGreatDoorPY
set_option linter.unusedVariables false
set_option linter.unusedSimpArgs false
set_option maxRecDepth 100000
set_option maxHeartbeats 40000000
namespace Go.Proofs.XC
open Go Go.RowKit
def ab (x y : Int) : Int := if y - x > x - y then y - x else x - y
theorem ab_bd {x y : Int} (hx : -100 ≤ x ∧ x ≤ 100) (hy : -100 ≤ y ∧ y ≤ 100) : 0 ≤ ab x y ∧ ab x y ≤ 200 := by
  unfold ab
  split <;> constructor <;> omega
theorem i_distance_eq {x y : Int} (hx : -100 ≤ x ∧ x ≤ 100) (hy : -100 ≤ y ∧ y ≤ 100) : X.i_distance x y = some (ab x y) := by
  unfold X.i_distance ab
  rw [wr_of (z := y - x) (by omega) (by omega), wr_of (z := x - y) (by omega) (by omega)]
theorem s_abs_eq {x y : Int} (hx : -100 ≤ x ∧ x ≤ 100) (hy : -100 ≤ y ∧ y ≤ 100) : X.s_l1Abs (wr (x - y)) = some (ab x y) := by
  unfold X.s_l1Abs X.s_l1Most ab
  rw [wr_of (z := x - y) (by omega) (by omega), wr_of (z := 0 - (x - y)) (by omega) (by omega)]
  by_cases h : y - x > x - y
  · have : decide (x - y > 0 - (x - y)) = false := by simp; omega
    rw [this, if_pos h]
    simp only [cond_false, bind_some]
    congr 1
    omega
  · rw [if_neg h]
    by_cases h2 : x - y > 0 - (x - y)
    · rw [decide_eq_true h2]
      rfl
    · simp only [h2, decide_false, cond_false, bind_some]
      congr 1
      omega
def bi (b : Bool) : Int := if b then 1 else 0
theorem bi_bd (b : Bool) : 0 ≤ bi b ∧ bi b ≤ 1 := by cases b <;> simp [bi]
def farP (a b : Place) : Int := ab a.Side b.Side + bi (!(a.Contact == b.Contact)) + (if (a.Region == 0) == (b.Region == 0) then ab a.Region b.Region else 4)
theorem farP_eqs {a b : Place} (ga : gPlace a = true) (gb : gPlace b = true) : X.i_Place_distance a b = some (farP a b) ∧ X.s_plFar a b = some (farP a b) ∧ 0 ≤ farP a b ∧ farP a b ≤ 1000 := by
  obtain ⟨a1, a2, _⟩ := gPlace_iff.1 ga
  obtain ⟨b1, b2, _⟩ := gPlace_iff.1 gb
  have d1 := ab_bd (x := a.Side) (y := b.Side) (by omega) (by omega)
  have d2 := ab_bd (x := a.Region) (y := b.Region) (by omega) (by omega)
  have e1 := i_distance_eq (x := a.Side) (y := b.Side) (by omega) (by omega)
  have e2 := i_distance_eq (x := a.Region) (y := b.Region) (by omega) (by omega)
  have f1 := s_abs_eq (x := a.Side) (y := b.Side) (by omega) (by omega)
  have f2 := s_abs_eq (x := a.Region) (y := b.Region) (by omega) (by omega)
  have t1 := bi_bd (!(a.Contact == b.Contact))
  have w1 : wr (ab a.Side b.Side + 1) = ab a.Side b.Side + 1 := wr_of (by omega) (by omega)
  have w2 : wr (ab a.Side b.Side + 1 + 4) = ab a.Side b.Side + 1 + 4 := wr_of (by omega) (by omega)
  have w3 : wr (ab a.Side b.Side + 4) = ab a.Side b.Side + 4 := wr_of (by omega) (by omega)
  have w4 : wr (ab a.Side b.Side + 1 + ab a.Region b.Region) = ab a.Side b.Side + 1 + ab a.Region b.Region := wr_of (by omega) (by omega)
  have w5 : wr (ab a.Side b.Side + ab a.Region b.Region) = ab a.Side b.Side + ab a.Region b.Region := wr_of (by omega) (by omega)
  refine ⟨?_, ?_, ?_, ?_⟩
  · unfold X.i_Place_distance farP
    simp only [bind_some, e1, e2, w1, w2, w3, w4, w5]
    cases h : a.Contact == b.Contact <;> cases h2 : ((a.Region == 0) == (b.Region == 0)) <;> simp [bi]
  · unfold X.s_plFar farP
    simp only [bind_some, f1, f2, w1, w2, w3, w4, w5]
    cases h : a.Contact == b.Contact <;> cases h2 : ((a.Region == 0) == (b.Region == 0)) <;> simp [bi]
  · unfold farP; split <;> omega
  · unfold farP; split <;> omega
end Go.Proofs.XC
