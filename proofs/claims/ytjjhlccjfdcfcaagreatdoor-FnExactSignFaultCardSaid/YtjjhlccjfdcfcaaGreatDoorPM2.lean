/- Plain laws of the plain functions: no program, no memory. By AI agents; no person has read it. -/
import Derived.Test.YtjjhlccjfdcfcaaGreatDoorPM1
set_option linter.unusedVariables false
set_option linter.unusedSimpArgs false
set_option maxRecDepth 100000
set_option maxHeartbeats 40000000
namespace Go.Proofs.XC
open Go Go.RowKit
/-! ### Shapes and orientations, parsed -/
theorem dig_back {a : UInt8} (h : 0 ≤ wr (wr (a.toNat : Int) - 48)) : dig (wr (wr (a.toNat : Int) - 48)) = a := by
  have hlt := a.toNat_lt
  have e1 : wr (a.toNat : Int) = (a.toNat : Int) := wr_of (by omega) (by omega)
  rw [e1] at h ⊢
  have e2 : wr ((a.toNat : Int) - 48) = (a.toNat : Int) - 48 := wr_of (by omega) (by omega)
  rw [e2] at h ⊢
  unfold dig
  have : 48 + ((a.toNat : Int) - 48).toNat = a.toNat := by omega
  rw [this]
  exact UInt8.ofNat_toNat
def shOf (a b c d e : UInt8) (w : Bool) : Shape := ⟨wr (wr (a.toNat : Int) - 48), wr (wr (b.toNat : Int) - 48), wr (wr (c.toNat : Int) - 48), wr (wr (d.toNat : Int) - 48), wr (wr (e.toNat : Int) - 48), w⟩
theorem shOf_text {a b c d e : UInt8} {w : Bool} (h : gShape (shOf a b c d e w) = true) : tShape (shOf a b c d e w) = [a, b, c, d, e] ++ (if w then [115] else []) := by
  rw [gShape_iff] at h
  obtain ⟨h1, h2, h3, h4, h5, _⟩ := h
  unfold tShape
  have e1 : dig (shOf a b c d e w).Thumb = a := dig_back h1.1
  have e2 : dig (shOf a b c d e w).Index = b := dig_back h2.1
  have e3 : dig (shOf a b c d e w).Middle = c := dig_back h3.1
  have e4 : dig (shOf a b c d e w).Ring = d := dig_back h4.1
  have e5 : dig (shOf a b c d e w).Little = e := dig_back h5.1
  rw [e1, e2, e3, e4, e5]
  rfl
theorem i_sh5 (k : Nat) (a b c d e : UInt8) : X.i_ParseShape (k + 6) [a, b, c, d, e] = Option.bind (X.i_IsShape (shOf a b c d e false)) fun v => (bif (!v) then some (zShape, false) else Option.bind (X.i_Shape_text (shOf a b c d e false)) fun t => (bif (!seq t [a, b, c, d, e]) then some (zShape, false) else some (shOf a b c d e false, true))) := by kernel_rfl
theorem i_sh6 (k : Nat) (a b c d e f : UInt8) : X.i_ParseShape (k + 6) [a, b, c, d, e, f] = Option.bind (X.i_IsShape (shOf a b c d e true)) fun v => (bif (!v) then some (zShape, false) else Option.bind (X.i_Shape_text (shOf a b c d e true)) fun t => (bif (!seq t [a, b, c, d, e, f]) then some (zShape, false) else some (shOf a b c d e true, true))) := by kernel_rfl
theorem s_sh5 (k : Nat) (a b c d e : UInt8) : X.s_shParse (k + 6) [a, b, c, d, e] = Option.bind (X.s_shGood (k + 6) (shOf a b c d e false)) fun v => (bif (!v) then some (zShape, false) else some (shOf a b c d e false, true)) := by kernel_rfl
theorem s_sh6 (k : Nat) (a b c d e f : UInt8) : X.s_shParse (k + 6) [a, b, c, d, e, f] = (bif ((f.toNat : Int) != 115) then some (zShape, false) else Option.bind (X.s_shGood (k + 6) (shOf a b c d e true)) fun v => (bif (!v) then some (zShape, false) else some (shOf a b c d e true, true))) := by kernel_rfl
theorem shapes (k : Nat) (s : Str) : ∃ r, X.i_ParseShape (k + 6) s = some r ∧ X.s_shParse (k + 6) s = some r ∧ (r.2 = true → gShape r.1 = true) := by
  match s with
  | [] => exact ⟨(zShape, false), rfl, rfl, fun h => by cases h⟩
  | [_] => exact ⟨(zShape, false), rfl, rfl, fun h => by cases h⟩
  | [_, _] => exact ⟨(zShape, false), rfl, rfl, fun h => by cases h⟩
  | [_, _, _] => exact ⟨(zShape, false), rfl, rfl, fun h => by cases h⟩
  | [_, _, _, _] => exact ⟨(zShape, false), rfl, rfl, fun h => by cases h⟩
  | [a, b, c, d, e] =>
    rw [i_sh5, s_sh5, i_IsShape_eq, s_shGood_eq (k + 2), bind_some, bind_some]
    cases hg : gShape (shOf a b c d e false)
    · exact ⟨(zShape, false), rfl, rfl, fun h => by cases h⟩
    rw [i_Shape_text_eq hg, shOf_text hg]
    refine ⟨(shOf a b c d e false, true), ?_, rfl, fun _ => hg⟩
    rw [Bool.not_true, cond_false, bind_some, seq_eq]
    simp
  | [a, b, c, d, e, f] =>
    rw [i_sh6, s_sh6, i_IsShape_eq, s_shGood_eq (k + 2), bind_some, bind_some]
    cases hg : gShape (shOf a b c d e true)
    · refine ⟨(zShape, false), rfl, ?_, fun h => by cases h⟩
      cases ((f.toNat : Int) != 115) <;> rfl
    rw [i_Shape_text_eq hg, shOf_text hg, Bool.not_true, cond_false, bind_some, seq_eq]
    by_cases hf : f = 115
    · subst hf
      refine ⟨(shOf a b c d e true, true), ?_, rfl, fun _ => hg⟩
      simp
    · refine ⟨(zShape, false), ?_, ?_, fun h => by cases h⟩
      · have : ¬ (115 : UInt8) = f := fun e => hf e.symm
        simp [this]
      · have : ((f.toNat : Int) != 115) = true := by
          rw [bne_iff_ne]
          intro h
          exact hf (UInt8.toNat_inj.1 (by rw [show (115 : UInt8).toNat = 115 from rfl]; omega))
        rw [this, cond_true]
  | x0 :: x1 :: x2 :: x3 :: x4 :: x5 :: x6 :: t =>
    have hr : inR (((x0 :: x1 :: x2 :: x3 :: x4 :: x5 :: x6 :: t).length : Nat) : Int) 5 6 = false := by
      cases h : inR (((x0 :: x1 :: x2 :: x3 :: x4 :: x5 :: x6 :: t).length : Nat) : Int) 5 6
      · rfl
      · have := inR_iff.1 h
        simp only [List.length_cons] at this
        omega
    refine ⟨(zShape, false), ?_, ?_, fun h => by cases h⟩
    · unfold X.i_ParseShape
      rw [i_within_eq, hr]
      rfl
    · unfold X.s_shParse
      rw [s_l1In_eq, hr]
      rfl
theorem orLetter_eq (k : Nat) (b : UInt8) : X.s_orLetter (k + 7) (b.toNat : Int) = some (Lib.indexByte dirs b) := by
  cases hd : isDir b with
  | true =>
    rcases isDir_cases hd with h | h | h | h | h | h <;> subst h <;> rfl
  | false =>
    have w : ∀ z : Int, -100 ≤ z → z ≤ 100 → wr z = z := fun z h1 h2 => wr_of (by omega) (by omega)
    have hn : ∀ c : UInt8, isDir c = true → b ≠ c := fun c hc e => by rw [e, hc] at hd; cases hd
    have g0 := ne_byte (b := b) (c := 117) (by omega) (hn _ rfl)
    have g1 := ne_byte (b := b) (c := 100) (by omega) (hn _ rfl)
    have g2 := ne_byte (b := b) (c := 108) (by omega) (hn _ rfl)
    have g3 := ne_byte (b := b) (c := 114) (by omega) (hn _ rfl)
    have g4 := ne_byte (b := b) (c := 102) (by omega) (hn _ rfl)
    have g5 := ne_byte (b := b) (c := 98) (by omega) (hn _ rfl)
    rw [indexByte_none b dirs (by
      intro hm
      simp only [dirs, List.mem_cons, List.not_mem_nil, or_false] at hm
      rcases hm with h | h | h | h | h | h <;> subst h <;> cases hd)]
    unfold X.s_orLetter
    simp only [loopM_succ]
    simp only [Int.cast_ofNat_Int] at g0 g1 g2 g3 g4 g5
    simp [w, getB, getI, bind_some, orEl, g0, g1, g2, g3, g4, g5]
theorem iByte_eq (b : UInt8) : X.strings_IndexByte ([117, 100, 108, 114, 102, 98] : Str) (b.toNat : Int) = some (Lib.indexByte dirs b) := by
  unfold X.strings_IndexByte
  congr 2
  show (b.toNat : Int).toNat.toUInt8 = b
  rw [Int.toNat_natCast]
  exact UInt8.ofNat_toNat
theorem orients (k : Nat) (s : Str) : ∃ r, X.i_ParseOrient s = some r ∧ X.s_orParse (k + 7) s = some r ∧ (r.2 = true → gOrient r.1 = true) := by
  match s with
  | [] => exact ⟨(zOrient, false), rfl, rfl, fun h => by cases h⟩
  | [_] => exact ⟨(zOrient, false), rfl, rfl, fun h => by cases h⟩
  | [a, b] =>
    have e1 : X.i_ParseOrient [a, b] = Option.bind (X.strings_IndexByte ([117, 100, 108, 114, 102, 98] : Str) (a.toNat : Int)) fun v => Option.bind (X.strings_IndexByte ([117, 100, 108, 114, 102, 98] : Str) (b.toNat : Int)) fun u => Option.bind (X.i_IsOrient ⟨v, u⟩) fun g => (bif (!g) then some (zOrient, false) else some (⟨v, u⟩, true)) := rfl
    have e2 : X.s_orParse (k + 7) [a, b] = Option.bind (X.s_orLetter (k + 7) (a.toNat : Int)) fun v => Option.bind (X.s_orLetter (k + 7) (b.toNat : Int)) fun u => Option.bind (X.s_orGood ⟨v, u⟩) fun g => (bif (!g) then some (zOrient, false) else some (⟨v, u⟩, true)) := rfl
    rw [e1, e2, iByte_eq, iByte_eq, orLetter_eq, orLetter_eq]
    simp only [bind_some, i_IsOrient_eq, s_orGood_eq]
    cases hg : gOrient ⟨Lib.indexByte dirs a, Lib.indexByte dirs b⟩
    · exact ⟨(zOrient, false), rfl, rfl, fun h => by cases h⟩
    · exact ⟨(⟨Lib.indexByte dirs a, Lib.indexByte dirs b⟩, true), rfl, rfl, fun _ => hg⟩
  | x0 :: x1 :: x2 :: t =>
    have hl : ((((x0 :: x1 :: x2 :: t).length : Nat) : Int) != 2) = true := by
      rw [bne_iff_ne]
      simp only [List.length_cons]
      omega
    refine ⟨(zOrient, false), ?_, ?_, fun h => by cases h⟩
    · unfold X.i_ParseOrient
      rw [hl]
      rfl
    · unfold X.s_orParse
      rw [hl]
      rfl
end Go.Proofs.XC
