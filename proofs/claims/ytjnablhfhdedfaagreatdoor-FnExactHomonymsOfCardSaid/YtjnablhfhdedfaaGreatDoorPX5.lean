/- Plain laws of the plain functions: no program, no memory. By AI agents; no person has read it. -/
import Derived.Test.YtjnablhfhdedfaaGreatDoorPX4
set_option linter.unusedVariables false
set_option linter.unusedSimpArgs false
set_option maxRecDepth 100000
set_option maxHeartbeats 40000000
namespace Go.Proofs.XC
open Go Go.RowKit
def dl (d : Int) : UInt8 := if d = 0 then 117 else if d = 1 then 100 else if d = 2 then 108 else if d = 3 then 114 else if d = 4 then 102 else 98
def tOrient (o : Orient) : Str := [dl o.Palm, dl o.Fingers]
theorem gOrient_iff {o : Orient} : gOrient o = true ↔ inR o.Palm 0 5 = true ∧ inR o.Fingers 0 5 = true ∧ o.Palm ≠ o.Fingers ∧ o.Palm ≠ opp o.Fingers := by
  unfold gOrient
  simp only [Bool.and_eq_true, bne_iff_ne]
  constructor
  · rintro ⟨⟨a, b⟩, c, d⟩; exact ⟨a, b, c, d⟩
  · rintro ⟨a, b, c, d⟩; exact ⟨⟨a, b⟩, c, d⟩
theorem cut_dir {d : Int} (h : inR d 0 5 = true) : cutS ([117, 100, 108, 114, 102, 98] : Str) d (wr (d + 1)) = some [dl d] := by
  rcases inR_cases h with h | h | h | h | h | h <;> subst h <;> rfl
theorem i_Orient_text_eq {o : Orient} (h : gOrient o = true) : X.i_Orient_text o = some (tOrient o) := by
  rw [gOrient_iff] at h
  unfold X.i_Orient_text
  simp only [cut_dir h.1, cut_dir h.2.1, bind_some]
  rfl
theorem s_orText_eq {o : Orient} (h : gOrient o = true) : X.s_orText o = some (tOrient o) := i_Orient_text_eq h
def names : List Str := [[115, 112, 97, 99, 101], [104, 101, 97, 100], [101, 121, 101], [99, 104, 101, 101, 107], [109, 111, 117, 116, 104], [99, 104, 105, 110], [110, 101, 99, 107], [99, 104, 101, 115, 116], [119, 97, 105, 115, 116], [104, 105, 112]]
def tPlace (p : Place) : Str := (names.getD p.Region.toNat [] ++ (if p.Side = -1 then [60] else if p.Side = 1 then [62] else [])) ++ (if p.Contact then [42] else [])
theorem gPlace_iff {p : Place} : gPlace p = true ↔ (0 ≤ p.Region ∧ p.Region ≤ 9) ∧ (-1 ≤ p.Side ∧ p.Side ≤ 1) ∧ (p.Contact = false ∨ p.Region ≠ 0) := by
  unfold gPlace
  simp [inR, and_assoc]
theorem place_eqs {p : Place} (h : gPlace p = true) : X.i_Place_text p = some (tPlace p) ∧ X.s_plText p = some (tPlace p) := by
  rw [gPlace_iff] at h
  obtain ⟨⟨h1, h2⟩, ⟨h3, h4⟩, _⟩ := h
  obtain ⟨r, sd, c⟩ := p
  simp only at h1 h2 h3 h4
  have hr : r = 0 ∨ r = 1 ∨ r = 2 ∨ r = 3 ∨ r = 4 ∨ r = 5 ∨ r = 6 ∨ r = 7 ∨ r = 8 ∨ r = 9 := by omega
  have hs : sd = -1 ∨ sd = 0 ∨ sd = 1 := by omega
  rcases hr with h | h | h | h | h | h | h | h | h | h <;> rcases hs with g | g | g <;> cases c <;> subst h <;> subst g <;> exact ⟨rfl, rfl⟩
def tMove (m : Move) : Str := if m.Steps = [] then [45] else if m.Repeat = 1 then m.Steps else m.Steps ++ [42] ++ [dig m.Repeat]
theorem i_Move_text_eq {m : Move} (h : gMove m = true) : X.i_Move_text m = some (tMove m) := by
  rw [gMove_iff] at h
  unfold X.i_Move_text tMove
  rw [seq_eq, itoa_eq (by omega) (by omega), catS_of (by simp; omega)]
  simp only [bind_some]
  rw [catS_of (by simp; omega)]
  by_cases h1 : m.Steps = []
  · simp [h1]
  · by_cases h2 : m.Repeat = 1
    · simp [h1, h2]
    · rw [beq_eq_false_iff_ne.2 h2]
      simp [h1, h2, bind_some]
theorem s_mvText_eq {m : Move} (k : Nat) (h : gMove m = true) : X.s_mvText (k + 1) m = some (tMove m) := by
  rw [gMove_iff] at h
  unfold X.s_mvText tMove
  rw [seq_eq, l1Num_eq k (by omega) (by omega), catS_of (by simp; omega)]
  simp only [bind_some]
  rw [catS_of (by simp; omega)]
  by_cases h1 : m.Steps = []
  · simp [h1]
  · by_cases h2 : m.Repeat = 1
    · simp [h1, h2]
    · have : decide (m.Repeat > 1) = true := by simp; omega
      rw [this]
      simp [h1, h2, bind_some]
def tHand (h : Hand) : Str := tShape h.Shape ++ [47] ++ tOrient h.Orient ++ [47] ++ tPlace h.Place ++ [47] ++ tMove h.Move
theorem tShape_len (s : Shape) : (tShape s).length ≤ 6 := by
  unfold tShape
  split <;> simp
theorem tPlace_len (p : Place) : (tPlace p).length ≤ 7 := by
  unfold tPlace
  have h : (names.getD p.Region.toNat []).length ≤ 5 := by
    have : ∀ x ∈ names, x.length ≤ 5 := by decide
    rw [List.getD_eq_getElem?_getD]
    cases hx : names[p.Region.toNat]? with
    | none => simp
    | some x => exact this x (List.mem_of_getElem? hx)
  simp only [List.length_append]
  have h2 : (if p.Side = -1 then ([60] : Str) else if p.Side = 1 then [62] else []).length ≤ 1 := by
    by_cases h : p.Side = -1
    · simp [h]
    · by_cases h' : p.Side = 1 <;> simp [h, h']
  have h3 : (if p.Contact = true then ([42] : Str) else []).length ≤ 1 := by split <;> simp
  omega
theorem tMove_len {m : Move} (h : gMove m = true) : (tMove m).length ≤ 8 := by
  rw [gMove_iff] at h
  unfold tMove
  by_cases h1 : m.Steps = []
  · simp [h1]
  · by_cases h2 : m.Repeat = 1
    · simp [h1, h2]; omega
    · simp [h1, h2]; omega
theorem tHand_len {h : Hand} (hg : gHand h = true) : (tHand h).length ≤ 30 := by
  have h1 := tShape_len h.Shape
  have h2 := tPlace_len h.Place
  have h3 := tMove_len (gHand_iff.1 hg).2.2.2
  unfold tHand tOrient
  simp only [List.length_append, List.length_cons, List.length_nil]
  omega
theorem i_Hand_text_eq {h : Hand} (hg : gHand h = true) : X.i_Hand_text h = some (tHand h) := by
  have hl := tHand_len hg
  obtain ⟨h1, h2, h3, h4⟩ := gHand_iff.1 hg
  unfold X.i_Hand_text
  simp only [i_Shape_text_eq h1, i_Orient_text_eq h2, (place_eqs h3).1, i_Move_text_eq h4, bind_some]
  unfold X.strings_Join
  have e : Lib.join [tShape h.Shape, tOrient h.Orient, tPlace h.Place, tMove h.Move] [47] = tHand h := by
    unfold Lib.join tHand
    simp [List.intercalate, List.intersperse]
  rw [e, if_pos ⟨by omega, by simp⟩]
  rfl
theorem s_siText_eq {h : Hand} (k : Nat) (hg : gHand h = true) : X.s_siText (k + 1) h = some (tHand h) := by
  have hl := tHand_len hg
  obtain ⟨h1, h2, h3, h4⟩ := gHand_iff.1 hg
  have l1 := tShape_len h.Shape
  have l2 := tPlace_len h.Place
  have l3 := tMove_len h4
  have l4 : (tOrient h.Orient).length = 2 := rfl
  unfold X.s_siText
  simp only [s_shText_eq k h1, s_orText_eq h2, (place_eqs h3).2, s_mvText_eq k h4, bind_some]
  rw [catS_of (by simp; omega), bind_some, catS_of (by simp; omega), bind_some, catS_of (by simp; omega), bind_some, catS_of (by simp; omega), bind_some, catS_of (by simp; omega), bind_some, catS_of (by simp; omega), bind_some]
  rfl
end Go.Proofs.XC
