/- Plain laws of the plain functions: no program, no memory. By AI agents; no person has read it. -/
import Derived.Test.YtjnablhfhdedfaaGreatDoorPX9
set_option linter.unusedVariables false
set_option linter.unusedSimpArgs false
set_option maxRecDepth 100000
set_option maxHeartbeats 40000000
namespace Go.Proofs.XC
open Go Go.RowKit
/-! ### Fields compared one by one -/
theorem bnot_beq (a b : Bool) : (!(a == b)) = !(decide (a = b)) := by cases a <;> cases b <;> rfl
theorem eqShape_eq (a b : Shape) : X.l_eqShape a b = some (decide (a = b)) := by
  unfold X.l_eqShape
  simp only [bne, beq_dec, bnot_beq]
  obtain ⟨a1, a2, a3, a4, a5, a6⟩ := a
  obtain ⟨b1, b2, b3, b4, b5, b6⟩ := b
  simp only [Shape.mk.injEq]
  by_cases h1 : a1 = b1 <;> by_cases h2 : a2 = b2 <;> by_cases h3 : a3 = b3 <;> by_cases h4 : a4 = b4 <;> by_cases h5 : a5 = b5 <;> by_cases h6 : a6 = b6 <;> simp [h1, h2, h3, h4, h5, h6]
theorem eqOrient_eq (a b : Orient) : X.l_eqOrient a b = some (decide (a = b)) := by
  unfold X.l_eqOrient
  simp only [bne, beq_dec, bnot_beq]
  obtain ⟨a1, a2⟩ := a
  obtain ⟨b1, b2⟩ := b
  simp only [Orient.mk.injEq]
  by_cases h1 : a1 = b1 <;> by_cases h2 : a2 = b2 <;> simp [h1, h2]
theorem eqPlace_eq (a b : Place) : X.l_eqPlace a b = some (decide (a = b)) := by
  unfold X.l_eqPlace
  simp only [bne, beq_dec, bnot_beq]
  obtain ⟨a1, a2, a3⟩ := a
  obtain ⟨b1, b2, b3⟩ := b
  simp only [Place.mk.injEq]
  by_cases h1 : a1 = b1 <;> by_cases h2 : a2 = b2 <;> by_cases h3 : a3 = b3 <;> simp [h1, h2, h3]
theorem eqMove_eq (a b : Move) : X.l_eqMove a b = some (decide (a = b)) := by
  unfold X.l_eqMove
  simp only [bne, beq_dec, bnot_beq, seq_eq]
  obtain ⟨a1, a2⟩ := a
  obtain ⟨b1, b2⟩ := b
  simp only [Move.mk.injEq]
  by_cases h1 : a1 = b1 <;> by_cases h2 : a2 = b2 <;> simp [h1, h2]
theorem eqHand_eq (a b : Hand) : X.l_eqHand a b = some (decide (a = b)) := by
  unfold X.l_eqHand
  simp only [eqShape_eq, eqOrient_eq, eqPlace_eq, eqMove_eq, bind_some]
  obtain ⟨a1, a2, a3, a4⟩ := a
  obtain ⟨b1, b2, b3, b4⟩ := b
  simp only [Hand.mk.injEq]
  by_cases h1 : a1 = b1 <;> by_cases h2 : a2 = b2 <;> by_cases h3 : a3 = b3 <;> by_cases h4 : a4 = b4 <;> simp [h1, h2, h3, h4]
theorem eqSign_eq (a b : Sign) : X.l_eqSign a b = some (decide (a = b)) := by
  unfold X.l_eqSign
  simp only [eqHand_eq, bnot_beq, bind_some]
  obtain ⟨a1, a2, a3⟩ := a
  obtain ⟨b1, b2, b3⟩ := b
  simp only [Sign.mk.injEq]
  by_cases h1 : a1 = b1 <;> by_cases h2 : a2 = b2 <;> by_cases h3 : a3 = b3 <;> simp [h1, h2, h3]
theorem fitS_of {s : Sign} (h : okSign s) : fitS s := ⟨h.1.2.2.2.1, h.2.2.2.2.2.1⟩

/-! ### NormalSign -/
/-! ### CompareSigns -/
def cmpB (a b : Str) : Int := Lib.compareBytes a b
theorem bytesLess_irrefl : ∀ a : Str, Op.bytesLess a a = false
  | [] => rfl
  | x :: a => by
    have := bytesLess_irrefl a
    simp [Op.bytesLess, this]
theorem cmpB_eq : ∀ a b : Str, (if Op.bytesLess a b then (-1 : Int) else if a = b then 0 else 1) = cmpB a b
  | [], [] => rfl
  | [], _ :: _ => rfl
  | _ :: _, [] => rfl
  | x :: a, y :: b => by
    have ih := cmpB_eq a b
    unfold cmpB at ih ⊢
    simp only [Op.bytesLess, Lib.compareBytes, List.cons.injEq]
    by_cases h1 : x < y
    · simp [h1]
    · by_cases h2 : y < x
      · have h3 : ¬ x = y := fun e => by rw [e] at h2; exact absurd h2 (UInt8.lt_irrefl y)
        simp [h1, h2, h3]
      · have h3 : x = y := UInt8.le_antisymm (UInt8.not_lt.1 h2) (UInt8.not_lt.1 h1)
        subst h3
        simp [h1, ← ih]
theorem s_siCompare_eq {k : Nat} {a b : Hand} (ga : gHand a = true) (gb : gHand b = true) (hk : 1 ≤ k) : X.s_siCompare k a b = some (cmpB (tHand a) (tHand b)) := by
  obtain ⟨q, rfl⟩ : ∃ q, k = q + 1 := ⟨k - 1, by omega⟩
  unfold X.s_siCompare
  simp only [s_siText_eq q ga, s_siText_eq q gb, bind_some, slt_eq, seq_eq]
  rw [← cmpB_eq]
  by_cases h : Op.bytesLess (tHand a) (tHand b) = true
  · simp [h]
  · have h' : Op.bytesLess (tHand a) (tHand b) = false := by simpa using h
    by_cases h2 : tHand a = tHand b <;> simp [h', h2]
    rw [h2] at h'
    simp [bytesLess_irrefl]
def cmpN (a b : Sign) : Int :=
  if cmpB (tHand a.Main) (tHand b.Main) ≠ 0 then cmpB (tHand a.Main) (tHand b.Main) else
  if a.Two = false then (if b.Two = false then 0 else -1) else if b.Two = false then 1 else cmpB (tHand a.Other) (tHand b.Other)
theorem nS_other {s : Sign} (g : gSign s = true) (h : s.Two = true) : gHand (nS s).Other = true := by
  have gm := gSign_main g
  obtain ⟨go, gk⟩ := gSign_other g h
  unfold nS
  rw [h]
  simp only [Bool.true_eq_false, if_false]
  split
  · first | exact gHand_nH go | exact gHand_nH gm
  · first | exact gHand_nH go | exact gHand_nH gm
def vCompare (a b : Sign) : Int × Bool := if gSign a then (if gSign b then (cmpN (nS a) (nS b), true) else (0, false)) else (0, false)
/-- Too large, or small. -/
theorem two_small {a b : Sign} (ha : okSign a) (hb : okSign b) {G : Prop} (F : Option Bool) (K : Option Bool)
    (e : F = Option.bind (X.l_szSign a 1048576) fun v => bif decide (v < 0) then some true else Option.bind (X.l_szSign b v) fun v2 => bif decide (v2 < 0) then some true else K)
    (h : smallS a → smallS b → K = some true) : F = some true := by
  rw [e]
  obtain ⟨r, hr, h1⟩ := szSign_eq (z := 1048576) (fitS_of ha) (by omega) (by omega)
  rw [hr, bind_some]
  rcases h1 with h1 | ⟨hs, h1, h1'⟩
  · have : decide (r < 0) = true := by simpa using h1
    rw [this]
    rfl
  · have : decide (r < 0) = false := by simpa using h1
    rw [this, cond_false]
    obtain ⟨r2, hr2, h2⟩ := szSign_eq (z := r) (fitS_of hb) h1 (by omega)
    rw [hr2, bind_some]
    rcases h2 with h2 | ⟨hs2, h2, _⟩
    · have : decide (r2 < 0) = true := by simpa using h2
      rw [this]
      rfl
    · have : decide (r2 < 0) = false := by simpa using h2
      rw [this, cond_false]
      exact h hs hs2
end Go.Proofs.XC
