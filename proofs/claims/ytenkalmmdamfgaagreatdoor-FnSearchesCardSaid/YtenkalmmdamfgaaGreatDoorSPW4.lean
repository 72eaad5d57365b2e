/- Plain laws of the plain functions: no program, no memory. By AI agents; no person has read it. -/
import Derived.Test.YtenkalmmdamfgaaGreatDoorSPZ6
set_option linter.unusedVariables false
set_option linter.unusedSimpArgs false
set_option maxRecDepth 100000
set_option maxHeartbeats 40000000
namespace Go.Proofs.XC
open Go Go.RowKit
/-! ### Patterns with stars -/
def rB (n : Nat) (E : Nat → Bool) : List Bool := (List.range (n + 1)).map E
theorem rB_len (n : Nat) (E : Nat → Bool) : (rB n E).length = n + 1 := by simp [rB]
theorem rB_get {n i : Nat} (E : Nat → Bool) (h : i ≤ n) : (rB n E)[i]? = some (E i) := by
  unfold rB
  rw [List.getElem?_map, List.getElem?_range (by omega)]
  rfl
theorem getI_rB {n i : Nat} (E : Nat → Bool) (h : i ≤ n) : getI (rB n E) (i : Int) = some (E i) := getI_of (rB_get E h)
theorem rB_congr {n : Nat} {E F : Nat → Bool} (h : ∀ j, j ≤ n → E j = F j) : rB n E = rB n F := by
  unfold rB
  apply List.map_congr_left
  intro j hj
  have := List.mem_range.1 hj
  exact h j (by omega)
theorem rB_set {n i : Nat} (E : Nat → Bool) (b : Bool) (h : i ≤ n) : (rB n E).set i b = rB n (fun j => if j = i then b else E j) := by
  apply List.ext_getElem?
  intro q
  rcases Nat.lt_or_ge n q with hq | hq
  · rw [List.getElem?_eq_none (by rw [List.length_set, rB_len]; omega), List.getElem?_eq_none (by rw [rB_len]; omega)]
  · rw [rB_get _ hq]
    by_cases e : q = i
    · subst e
      rw [List.getElem?_set_self (by rw [rB_len]; omega)]
      simp
    · rw [List.getElem?_set_ne (by omega), rB_get _ hq]
      simp [e]
theorem rB_false (n : Nat) : List.replicate (n + 1) false = rB n (fun _ => false) := by
  unfold rB
  apply List.ext_getElem?
  intro q
  rcases Nat.lt_or_ge n q with hq | hq
  · rw [List.getElem?_eq_none (by simp; omega), List.getElem?_eq_none (by simp; omega)]
  · rw [List.getElem?_replicate, if_pos (by omega), List.getElem?_map, List.getElem?_range (by omega)]
    rfl
def exB (E : Nat → Bool) : Nat → Bool
  | 0 => E 0
  | j + 1 => exB E j || E (j + 1)
theorem exB_iff (E : Nat → Bool) : ∀ j, exB E j = true ↔ ∃ i, i ≤ j ∧ E i = true
  | 0 => by
    constructor
    · intro h; exact ⟨0, Nat.le_refl _, h⟩
    · rintro ⟨i, hi, h⟩
      have : i = 0 := by omega
      subst this
      exact h
  | j + 1 => by
    simp only [exB, Bool.or_eq_true, exB_iff E j]
    constructor
    · rintro (⟨i, hi, h⟩ | h)
      · exact ⟨i, by omega, h⟩
      · exact ⟨j + 1, Nat.le_refl _, h⟩
    · rintro ⟨i, hi, h⟩
      rcases Nat.lt_or_ge j i with h1 | h1
      · have : i = j + 1 := by omega
        subst this
        exact .inr h
      · exact .inl ⟨i, h1, h⟩
def hitS (c : UInt8) (s : Str) (j : Nat) : Bool := decide (c = 63) || decide (s[j]? = some c)
def stepE (c : UInt8) (s : Str) (E : Nat → Bool) (j : Nat) : Bool := if c = 42 then exB E j else match j with
  | 0 => false
  | j + 1 => E j && hitS c s j
def fitE (s : Str) (p : Str) : Nat → Bool := p.foldl (fun E c => stepE c s E) (fun j => decide (j = 0))
def fitV (p s : Str) : Bool := fitE s p s.length
end Go.Proofs.XC
