/- Plain laws of the plain functions: no program, no memory. By AI agents; no person has read it. -/
import Derived.Test.YtkckmehkialgjaaGreatDoorPV5
set_option linter.unusedVariables false
set_option linter.unusedSimpArgs false
set_option maxRecDepth 100000
set_option maxHeartbeats 40000000
namespace Go.Proofs.XC
open Go Go.RowKit
theorem part_same {m o : Hand} (gm : gHand m = true) (go : gHand o = true) : decide (tShape o.Shape = tShape m.Shape) = qShape m.Shape o.Shape ∧ decide (tOrient o.Orient = tOrient m.Orient) = qOrient m.Orient o.Orient ∧ decide (tPlace o.Place = tPlace m.Place) = qPlace m.Place o.Place ∧ decide (tMove o.Move = tMove m.Move) = qMove m.Move o.Move := by
  obtain ⟨m1, m2, m3, m4⟩ := gHand_iff.1 gm
  obtain ⟨o1, o2, o3, o4⟩ := gHand_iff.1 go
  rw [qSh, qOr, qPl, qMo]
  refine ⟨?_, ?_, ?_, ?_⟩ <;> rw [decide_eq_decide]
  · exact ⟨fun h => (tShape_inj o1 m1 h).symm, fun h => by rw [h]⟩
  · exact ⟨fun h => (tOrient_inj o2 m2 h).symm, fun h => by rw [h]⟩
  · exact ⟨fun h => (tPlace_inj o3 m3 h).symm, fun h => by rw [h]⟩
  · exact ⟨fun h => (tMove_inj o4 m4 h).symm, fun h => by rw [h]⟩
theorem part_len {h : Hand} (g : gHand h = true) : (tShape h.Shape).length ≤ 30 ∧ (tOrient h.Orient).length ≤ 30 ∧ (tPlace h.Place).length ≤ 30 ∧ (tMove h.Move).length ≤ 30 := by
  have hl := tHand_len g
  unfold tHand at hl
  simp only [List.length_append, List.length_singleton] at hl
  omega
theorem i_short_eq {s : Sign} (g : gSign s = true) : X.i_Sign_short s = some (vShT s) := by
  have gm := gSign_main g
  unfold X.i_Sign_short vShT
  cases h : s.Two
  · simp only [Bool.not_false, cond_true, i_Hand_text_eq gm, bind_some, Bool.false_eq_true, if_false]
  · have go := (gSign_other g h).1
    obtain ⟨p1, p2, p3, p4⟩ := part_len go
    have e1 := el_len (q := qShape s.Main.Shape s.Other.Shape) p1
    have e2 := el_len (q := qOrient s.Main.Orient s.Other.Orient) p2
    have e3 := el_len (q := qPlace s.Main.Place s.Other.Place) p3
    have e4 := el_len (q := qMove s.Main.Move s.Other.Move) p4
    have lm := tHand_len gm
    simp only [Bool.not_true, cond_false, i_Hand_text_eq gm, i_Hand_text_eq go, bind_some, split_hand go, X.i_Hand_same, i_loop, if_true]
    rw [catS_of (by simp; omega), bind_some]
    unfold X.strings_Join mk4
    rw [join4, if_pos (by simp; omega), bind_some, catS_of (by simp; omega)]
    rfl
theorem s_short_eq {k : Nat} {s : Sign} (g : gSign s = true) (hk : 2000 ≤ k) : X.s_paShort k s = some (vShT s) := by
  have gm := gSign_main g
  obtain ⟨q, rfl⟩ : ∃ q, k = q + 1 := ⟨k - 1, by omega⟩
  unfold X.s_paShort vShT X.s_paText
  cases h : s.Two
  · simp only [Bool.not_false, cond_true, cond_false, s_siText_eq q gm, bind_some, Bool.false_eq_true, if_false]
  · have go := (gSign_other g h).1
    obtain ⟨p1, p2, p3, p4⟩ := part_len go
    obtain ⟨d1, d2, d3, d4⟩ := part_same gm go
    have lm := tHand_len gm
    simp only [Bool.not_true, cond_false, s_siText_eq q gm, s_siText_eq q go, bind_some, lsplit_hand gm hk, lsplit_hand go hk, if_true]
    rw [catS_of (by simp; omega), bind_some, s_loop _ _ _ _ _ _ _ _ _ (by simp; omega) p1 p2 p3 p4, bind_some, d1, d2, d3, d4]
    unfold mk4
    rw [join4]
def vShort (s : Sign) : Str × Bool := if gSign s then (vShT s, true) else ([], false)
theorem i_ShortText_eq {k : Nat} {s : Sign} (hs : smallS s) (hk : 10 ≤ k) : X.i_ShortText k s = some (vShort s) := by
  unfold X.i_ShortText vShort
  rw [i_IsSign_eq hs hk]
  cases g : gSign s
  · rfl
  · simp only [Bool.not_true, cond_false, bind_some, i_short_eq g, if_true]
theorem s_ShortText_eq {k : Nat} {s : Sign} (hs : smallS s) (hk : 2000010 ≤ k) : X.s_ShortText k s = some (vShort s) := by
  unfold X.s_ShortText vShort
  rw [s_siGood_eq hs hk]
  cases g : gSign s
  · rfl
  · simp only [Bool.not_true, cond_false, bind_some, s_short_eq g (show 2000 ≤ k by omega), if_true]
theorem Pure.FnExactShortText (s : Sign) (o_s : okSign s) : X.l_FnExactShortText 3000000 s = some true := by
  unfold X.l_FnExactShortText
  obtain ⟨r0, hr0, d0⟩ := szSign_eq (s := s) (z := 1048576) (fitS_of o_s) (by omega) (by omega)
  rw [hr0, bind_some]
  rcases d0 with d0 | ⟨h_s, p0, q0⟩
  · have : decide (r0 < 0) = true := by simpa using d0
    rw [this]
    rfl
  have e0 : decide (r0 < 0) = false := by simpa using p0
  rw [e0, cond_false]
  simp only [seq_eq, toSign_eq,
    bind_some,
    i_ShortText_eq h_s (show 10 ≤ 3000000 by omega),
    s_ShortText_eq h_s (show 2000010 ≤ 3000000 by omega)]
  simp
end Go.Proofs.XC
