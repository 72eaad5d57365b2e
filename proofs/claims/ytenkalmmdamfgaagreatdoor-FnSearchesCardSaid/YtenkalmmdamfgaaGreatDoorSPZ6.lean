/- Plain laws of the plain functions: no program, no memory. By AI agents; no person has read it. -/
import Derived.Test.YtenkalmmdamfgaaGreatDoorSPY
set_option linter.unusedVariables false
set_option linter.unusedSimpArgs false
set_option maxRecDepth 100000
set_option maxHeartbeats 40000000
namespace Go.Proofs.XC
open Go Go.RowKit
/-! ### Distances -/
theorem ranNI {α σ ρ : Type} {body : Int → σ → Option (σ ⊕ ρ)} {fin : σ → Option ρ} {z : Int} {s0 : σ} (l : List α) (g : Nat → α → σ → σ ⊕ ρ) (f : σ → ρ) (inv : Nat → σ → Prop) (hz : z = (l.length : Int)) (hl : l.length ≤ 9223372036854775807) (hv : inv 0 s0)
    (h1 : ∀ (i : Nat) x s, l[i]? = some x → inv i s → body (i : Int) s = some (g i x s)) (h2 : ∀ s, inv l.length s → fin s = some (f s))
    (hi : ∀ (i : Nat) x s s', l[i]? = some x → inv i s → g i x s = .inl s' → inv (i + 1) s') : rangeN body fin z s0 = some (foldS g f l 0 s0) := by
  subst hz
  unfold rangeN
  rw [if_pos (by omega)]
  have key : ∀ (r : List α) (i : Nat) (s : σ), l.drop i = r → i ≤ l.length → inv i s → rangeM (fun j _ s => body j s) fin (List.range' i r.length) i s = some (foldS g f r i s) := by
    intro r
    induction r with
    | nil =>
      intro i s hd hi' hv
      have : l.length ≤ i := List.drop_eq_nil_iff.1 hd
      have hil : i = l.length := by omega
      subst hil
      simp [rangeM_nil, h2 s hv, foldS]
    | cons x r ih =>
      intro i s hd hi' hv
      have hlt : i < l.length := by
        rcases Nat.lt_or_ge i l.length with h | h
        · exact h
        · rw [List.drop_eq_nil_of_le h] at hd; cases hd
      have hx : l[i]? = some x := by
        have := congrArg (fun l => l[0]?) hd
        simpa using this
      have hd' : l.drop (i + 1) = r := by rw [← List.drop_drop (i := 1) (j := i), hd]; rfl
      rw [List.length_cons, List.range'_succ, rangeM_cons, h1 i x s hx hv, bind_some, foldS]
      cases hg : g i x s with
      | inl s' => exact ih (i + 1) s' hd' (by omega) (hi i x s s' hx hv hg)
      | inr q => rfl
  have := key l 0 s0 rfl (Nat.zero_le _) hv
  rw [← List.range_eq_range'] at this
  simpa using this
theorem foldS_ex {α σ : Type} {g : Nat → α → σ → σ ⊕ σ} (inv : Nat → σ → Prop) : ∀ (l : List α) (j : Nat) (s : σ), inv j s → (∀ (i : Nat) x s, l[i]? = some x → inv (j + i) s → ∃ s', g (j + i) x s = .inl s' ∧ inv (j + i + 1) s') → inv (j + l.length) (foldS g (fun s => s) l j s)
  | [], j, s, hv, _ => by simpa [foldS] using hv
  | x :: l, j, s, hv, h1 => by
    obtain ⟨s', h, hv'⟩ := h1 0 x s rfl hv
    have h : g j x s = .inl s' := h
    rw [foldS, h]
    have := foldS_ex inv l (j + 1) s' hv' (fun i y s hy hv => by
      have := h1 (i + 1) y s hy (by rw [show j + (i + 1) = j + 1 + i by omega]; exact hv)
      rw [show j + (i + 1) = j + 1 + i by omega] at this
      exact this)
    rw [List.length_cons, show j + (l.length + 1) = j + 1 + l.length by omega]
    exact this
theorem ne_bytes (x y : UInt8) : ((x.toNat : Int) != (y.toNat : Int)) = !(decide (x = y)) := by
  have : ((x.toNat : Int) = (y.toNat : Int)) ↔ x = y := by
    constructor
    · intro h
      exact UInt8.toNat_inj.1 (by omega)
    · intro h
      rw [h]
  by_cases h : x = y <;> simp [bne, h, this]
end Go.Proofs.XC
