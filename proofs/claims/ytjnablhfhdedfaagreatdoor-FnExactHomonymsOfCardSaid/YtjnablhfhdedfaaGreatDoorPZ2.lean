/- Plain laws of the plain functions: no program, no memory. By AI agents; no person has read it. -/
import Derived.Test.YtjnablhfhdedfaaGreatDoorPZ1
set_option linter.unusedVariables false
set_option linter.unusedSimpArgs false
set_option maxRecDepth 100000
set_option maxHeartbeats 40000000
namespace Go.Proofs.XC
open Go Go.RowKit
/-! ### A part of another sign -/
theorem nS_none {s : Sign} (h : s.Two = false) : (nS s).Other = zHand := by unfold nS; simp [h]
theorem small_good {h : Hand} (g : gHand h = true) : small h := by
  have := (gMove_iff.1 (gHand_iff.1 g).2.2.2).1
  unfold small
  omega
theorem smallS_nS {s : Sign} (g : gSign s = true) : smallS (nS s) := by
  refine ⟨small_good (nS_main g), ?_⟩
  cases h : s.Two with
  | false => rw [nS_none h]; unfold small; simp [zHand, zMove]
  | true => exact small_good (nS_other g h)
def tail_ (s : Sign) : Sign × Bool := if gSign s then (nS s, true) else (zSign, false)
theorem i_tail {k : Nat} {s : Sign} (hs : smallS s) (hk : 10 ≤ k) : (Option.bind (X.i_IsSign k s) fun v => (bif (!v) then some (zSign, false) else (Option.bind (X.i_Sign_normal k s) fun v => some (v, true)))) = some (tail_ s) := by
  rw [i_IsSign_eq hs hk, bind_some]
  unfold tail_
  cases g : gSign s
  · rfl
  · rw [i_normal_eq g hk]; rfl
theorem s_tail {k : Nat} {s : Sign} (hs : smallS s) (hk : 2000010 ≤ k) : (Option.bind (X.s_siGood k s) fun v => (bif (!v) then some (zSign, false) else (Option.bind (X.s_noForm k s) fun v => some (v, true)))) = some (tail_ s) := by
  rw [s_siGood_eq hs hk, bind_some]
  unfold tail_
  cases g : gSign s
  · rfl
  · rw [s_noForm_eq g (by omega)]; rfl
theorem part_eq {k : Nat} {a b : Sign} {p : Int} (ha : smallS a) (hb : smallS b) (hk : 2000010 ≤ k) : ∃ v, X.i_WithPart k a b p = some v ∧ X.s_WithPart k a b p = some v := by
  unfold X.i_WithPart X.s_WithPart X.s_prPart
  simp only [i_IsSign_eq ha (show 10 ≤ k by omega), i_IsSign_eq hb (show 10 ≤ k by omega), s_siGood_eq ha hk, s_siGood_eq hb hk, i_within_eq, s_l1In_eq, bind_some]
  cases ga : gSign a
  · exact ⟨_, rfl, rfl⟩
  cases gb : gSign b
  · exact ⟨_, rfl, rfl⟩
  cases hp : inR p 0 4
  · exact ⟨_, rfl, rfl⟩
  simp only [Bool.not_true, cond_false, i_normal_eq ga (show 10 ≤ k by omega), i_normal_eq gb (show 10 ≤ k by omega), s_noForm_eq ga (show 10 ≤ k by omega), s_noForm_eq gb (show 10 ≤ k by omega), bind_some]
  obtain ⟨a1, a2⟩ := smallS_nS ga
  obtain ⟨b1, b2⟩ := smallS_nS gb
  cases p == 0
  · cases p == 1
    · cases p == 2
      · cases p == 3
        · simp only [cond_false]
          exact ⟨_, i_tail ⟨a1, b2⟩ (by omega), s_tail ⟨a1, b2⟩ hk⟩
        · simp only [cond_false, cond_true]
          exact ⟨_, i_tail ⟨b1, a2⟩ (by omega), s_tail ⟨b1, a2⟩ hk⟩
      · simp only [cond_false, cond_true]
        exact ⟨_, i_tail ⟨a1, a2⟩ (by omega), s_tail ⟨a1, a2⟩ hk⟩
    · simp only [cond_false, cond_true]
      exact ⟨_, i_tail ⟨a1, a2⟩ (by omega), s_tail ⟨a1, a2⟩ hk⟩
  · simp only [cond_true]
    exact ⟨_, i_tail ⟨a1, a2⟩ (by omega), s_tail ⟨a1, a2⟩ hk⟩
theorem Pure.FnExactWithPart (a : Sign) (ha : okSign a) (b : Sign) (hb : okSign b) (p : Int) (_ : okI p) : X.l_FnExactWithPart 3000000 a b p = some true := by
  unfold X.l_FnExactWithPart
  refine two_small ha hb (G := True) _ _ rfl fun sa sb => ?_
  obtain ⟨v, h1, h2⟩ := part_eq (p := p) sa sb (show 2000010 ≤ 3000000 by omega)
  simp only [toSign_eq, bind_some, h1, h2, eqSign_eq]
  simp
end Go.Proofs.XC
