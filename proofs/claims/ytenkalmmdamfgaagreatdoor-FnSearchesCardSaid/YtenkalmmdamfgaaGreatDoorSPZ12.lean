/- Plain laws of the plain functions: no program, no memory. By AI agents; no person has read it. -/
import Derived.Test.YtenkalmmdamfgaaGreatDoorSPZ11
set_option linter.unusedVariables false
set_option linter.unusedSimpArgs false
set_option maxRecDepth 100000
set_option maxHeartbeats 40000000
namespace Go.Proofs.XC
open Go Go.RowKit
/-! ### What a match costs -/
theorem gPat_iff {p : Pattern} (h : gPat p = true) : p.Shape.length = 5 ∧ p.Orient.length = 2 ∧ p.Steps.length ≤ 20 ∧ inR p.Region (-1) 9 = true ∧ inR p.Hands 0 2 = true := by
  unfold gPat at h
  simp only [Bool.and_eq_true, decide_eq_true_eq] at h
  exact ⟨h.1, h.2.2.1, h.2.2.2.2.2.1, h.2.2.2.2.1, h.2.2.2.2.2.2.2⟩
def costV (p : Pattern) (s : Sign) : Int := (mis p.Shape (pOf s).Shape + mis p.Orient (pOf s).Orient) + (if p.Region ≥ 0 ∧ p.Region ≠ (pOf s).Region then 2 else 0) + (if p.Hands > 0 ∧ p.Hands ≠ (pOf s).Hands then 2 else 0) + (if fitV p.Steps (pOf s).Steps = true then 0 else 3)
theorem pOf_lens {s : Sign} (g : gSign s = true) : (pOf s).Shape.length = 5 ∧ (pOf s).Orient.length = 2 ∧ (pOf s).Steps.length ≤ 18 := by
  refine ⟨?_, rfl, all_len (gHand_iff.1 (nS_main g)).2.2.2⟩
  show ((tShape (nS s).Main.Shape).take 5).length = 5
  unfold tShape
  simp
theorem cost_eqs {k : Nat} {p : Pattern} {s : Sign} (gp : gPat p = true) (g : gSign s = true) (hk : 100 ≤ k) : X.i_Pattern_cost k p s = some (costV p s) ∧ X.s_seCost k p s = some (costV p s) ∧ 0 ≤ costV p s ∧ costV p s ≤ 14 := by
  obtain ⟨p1, p2, p3, _, _⟩ := gPat_iff gp
  obtain ⟨l1, l2, l3⟩ := pOf_lens g
  have b1 := mis_bd p.Shape (pOf s).Shape
  have b2 := mis_bd p.Orient (pOf s).Orient
  have a1 := i_apart_eq (p := p.Shape) (s := (pOf s).Shape) (by omega) (by omega)
  have a2 := i_apart_eq (p := p.Orient) (s := (pOf s).Orient) (by omega) (by omega)
  have c1 := s_missed_eq (k := k) (p := p.Shape) (s := (pOf s).Shape) (by omega) (by omega) hk
  have c2 := s_missed_eq (k := k) (p := p.Orient) (s := (pOf s).Orient) (by omega) (by omega) hk
  have f1 := i_fits_eq (p := p.Steps) (s := (pOf s).Steps) (by omega) (by omega)
  have f2 := s_steps_eq2 (k := k) (p := p.Steps) (s := (pOf s).Steps) (by omega) (by omega) hk
  have gm := gHand_iff.1 (nS_main g)
  have sS : X.s_seShape k (nS s).Main.Shape = some (pOf s).Shape := by
    obtain ⟨q, rfl⟩ : ∃ q, k = q + 1 := ⟨k - 1, by omega⟩
    unfold X.s_seShape
    rw [s_shText_eq q gm.1, bind_some, cut5]
    rfl
  have sO : X.s_orText (nS s).Main.Orient = some (pOf s).Orient := s_orText_eq gm.2.1
  have sM : X.s_mvAll k (nS s).Main.Move = some (pOf s).Steps := s_mvAll_eq gm.2.2.2 (by omega)
  have sH : X.s_seHands (nS s) = some (pOf s).Hands := by
    unfold X.s_seHands
    rw [nS_two]
    show _ = some (if s.Two then (2 : Int) else 1)
    cases s.Two <;> rfl
  have sR : (nS s).Main.Place.Region = (pOf s).Region := rfl
  generalize hm1 : mis p.Shape (pOf s).Shape = m1 at *
  generalize hm2 : mis p.Orient (pOf s).Orient = m2 at *
  have w0 : wr (m1 + m2) = m1 + m2 := wr_of (by omega) (by omega)
  have w2 : wr (m1 + m2 + 2) = m1 + m2 + 2 := wr_of (by omega) (by omega)
  have w22 : wr (m1 + m2 + 2 + 2) = m1 + m2 + 2 + 2 := wr_of (by omega) (by omega)
  have w223 : wr (m1 + m2 + 2 + 2 + 3) = m1 + m2 + 2 + 2 + 3 := wr_of (by omega) (by omega)
  have w23 : wr (m1 + m2 + 2 + 3) = m1 + m2 + 2 + 3 := wr_of (by omega) (by omega)
  have w3 : wr (m1 + m2 + 3) = m1 + m2 + 3 := wr_of (by omega) (by omega)
  refine ⟨?_, ?_, ?_, ?_⟩
  · unfold X.i_Pattern_cost costV
    simp only [i_patternOf_eq g (show 10 ≤ k by omega), bind_some, a1, a2, f1, w0, w2, w22, w223, w23, w3, hm1, hm2, bne, beq_dec]
    by_cases h1 : p.Region ≥ 0 <;> by_cases h2 : p.Region = (pOf s).Region <;> by_cases h3 : p.Hands > 0 <;> by_cases h4 : p.Hands = (pOf s).Hands <;> cases h5 : fitV p.Steps (pOf s).Steps <;> simp only [h1, h2, h3, h4, decide_true, decide_false, cond_true, cond_false, Bool.not_true, Bool.not_false, if_true, if_false, Bool.false_eq_true, and_true, and_false, true_and, false_and, ne_eq, not_true_eq_false, not_false_eq_true] <;> (try split) <;> (try rfl) <;> first | (congr 1; omega) | simp_all
  · unfold X.s_seCost costV
    simp only [s_noForm_eq g (show 10 ≤ k by omega), bind_some, sS, sO, sM, sH, sR, c1, c2, f2, w0, w2, w22, w223, w23, w3, hm1, hm2, bne, beq_dec]
    by_cases h1 : p.Region ≥ 0 <;> by_cases h2 : p.Region = (pOf s).Region <;> by_cases h3 : p.Hands > 0 <;> by_cases h4 : p.Hands = (pOf s).Hands <;> cases h5 : fitV p.Steps (pOf s).Steps <;> simp only [h1, h2, h3, h4, decide_true, decide_false, cond_true, cond_false, Bool.not_true, Bool.not_false, if_true, if_false, Bool.false_eq_true, and_true, and_false, true_and, false_and, ne_eq, not_true_eq_false, not_false_eq_true] <;> (try split) <;> (try rfl) <;> first | (congr 1; omega) | simp_all
  · unfold costV
    rw [hm1, hm2]
    repeat' split
    all_goals omega
  · unfold costV
    rw [hm1, hm2]
    repeat' split
    all_goals omega
def vCost (p : Pattern) (s : Sign) : Int × Bool := if gPat p && gSign s then (costV p s, true) else (0, false)
def vMatch (p : Pattern) (s : Sign) : Bool × Bool := if gPat p && gSign s then (costV p s == 0, true) else (false, false)
theorem i_CostOfMatch_eq {k : Nat} {p : Pattern} {s : Sign} (hp : smallP p) (hs : smallS s) (hk : 100 ≤ k) : X.i_CostOfMatch k p s = some (vCost p s) := by
  unfold X.i_CostOfMatch vCost
  rw [i_IsPattern_eq hp, i_IsSign_eq hs (by omega)]
  cases h1 : gPat p <;> cases h2 : gSign s <;> simp only [bind_some, Bool.not_true, Bool.not_false, cond_true, cond_false, Bool.and_self, Bool.and_true, Bool.and_false, Bool.true_and, Bool.false_and, if_true, Bool.false_eq_true, if_false]
  rw [(cost_eqs h1 h2 hk).1]
  rfl
theorem s_CostOfMatch_eq {k : Nat} {p : Pattern} {s : Sign} (hp : smallP p) (hs : smallS s) (hk : 2000010 ≤ k) : X.s_CostOfMatch k p s = some (vCost p s) := by
  unfold X.s_CostOfMatch vCost
  rw [s_seGood_eq hp hk, s_siGood_eq hs hk]
  cases h1 : gPat p <;> cases h2 : gSign s <;> simp only [bind_some, Bool.not_true, Bool.not_false, cond_true, cond_false, Bool.and_self, Bool.and_true, Bool.and_false, Bool.true_and, Bool.false_and, if_true, Bool.false_eq_true, if_false]
  rw [(cost_eqs h1 h2 (show 100 ≤ k by omega)).2.1]
  rfl
theorem i_MatchesSign_eq {k : Nat} {p : Pattern} {s : Sign} (hp : smallP p) (hs : smallS s) (hk : 100 ≤ k) : X.i_MatchesSign k p s = some (vMatch p s) := by
  unfold X.i_MatchesSign vMatch
  rw [i_IsPattern_eq hp, i_IsSign_eq hs (by omega)]
  cases h1 : gPat p <;> cases h2 : gSign s <;> simp only [bind_some, Bool.not_true, Bool.not_false, cond_true, cond_false, Bool.and_self, Bool.and_true, Bool.and_false, Bool.true_and, Bool.false_and, if_true, Bool.false_eq_true, if_false]
  rw [(cost_eqs h1 h2 hk).1]
  rfl
theorem s_MatchesSign_eq {k : Nat} {p : Pattern} {s : Sign} (hp : smallP p) (hs : smallS s) (hk : 2000010 ≤ k) : X.s_MatchesSign k p s = some (vMatch p s) := by
  unfold X.s_MatchesSign vMatch
  rw [s_seGood_eq hp hk, s_siGood_eq hs hk]
  cases h1 : gPat p <;> cases h2 : gSign s <;> simp only [bind_some, Bool.not_true, Bool.not_false, cond_true, cond_false, Bool.and_self, Bool.and_true, Bool.and_false, Bool.true_and, Bool.false_and, if_true, Bool.false_eq_true, if_false]
  rw [(cost_eqs h1 h2 (show 100 ≤ k by omega)).2.1]
  rfl
end Go.Proofs.XC
