/- Plain laws of the plain functions: no program, no memory. By AI agents; no person has read it. -/
import Derived.Test.YtldkmmopfhhdgaaGreatDoorPZ6
set_option linter.unusedVariables false
set_option linter.unusedSimpArgs false
set_option maxRecDepth 100000
set_option maxHeartbeats 40000000
namespace Go.Proofs.XC
open Go Go.RowKit
/-! ### The first best one -/
def arg {α : Type} (c : Int → Int → Bool) (f : α → Int) : List α → Nat → Int × Int → Int × Int
  | [], _, s => s
  | x :: l, j, s => arg c f l (j + 1) (if c (f x) s.2 then ((j : Int), f x) else s)
theorem arg_spec {α ρ : Type} (c : Int → Int → Bool) (f : α → Int) {body : Int → α → Int × Int → Option ((Int × Int) ⊕ ρ)} {fin : Int × Int → Option ρ} : ∀ (l : List α) (j : Nat) (s : Int × Int),
    (∀ (i : Nat) x s, l[i]? = some x → body ((j + i : Nat) : Int) x s = some (.inl (if c (f x) s.2 then (((j + i : Nat) : Int), f x) else s))) → rangeM body fin l j s = fin (arg c f l j s)
  | [], j, s, _ => rfl
  | x :: l, j, s, h => by
    have h0 := h 0 x s rfl
    simp only [Nat.add_zero] at h0
    rw [rangeM_cons, h0, bind_some, arg]
    exact arg_spec c f l (j + 1) _ fun i y s hy => by
      have := h (i + 1) y s hy
      rw [show j + (i + 1) = j + 1 + i by omega] at this
      exact this
theorem arg_impl {α ρ : Type} (c : Int → Int → Bool) (f : α → Int) (L : List α) {body : Int → α → Int → Option (Int ⊕ ρ)} {fin : Int → Option ρ} : ∀ (l : List α) (j : Nat) (b : Int) (y : α), L.drop j = l → getI L b = some y →
    (∀ (i : Nat) x b y, L[i]? = some x → getI L b = some y → body (i : Int) x b = some (.inl (if c (f x) (f y) then (i : Int) else b))) → ∃ b' y', rangeM body fin l j b = fin b' ∧ getI L b' = some y' ∧ arg c f l j (b, f y) = (b', f y')
  | [], j, b, y, _, hb, _ => ⟨b, y, rfl, hb, rfl⟩
  | x :: l, j, b, y, hd, hb, h => by
    have hx : L[j]? = some x := by
      have := congrArg (fun l => l[0]?) hd
      simpa using this
    have hd' : L.drop (j + 1) = l := by rw [← List.drop_drop (i := 1) (j := j), hd]; rfl
    rw [rangeM_cons, h j x b y hx hb, bind_some, arg]
    by_cases hc : c (f x) (f y) = true
    · simp only [hc, if_true]
      exact arg_impl c f L l (j + 1) (j : Int) x hd' (getI_of hx) h
    · simp only [hc, Bool.false_eq_true, if_false]
      exact arg_impl c f L l (j + 1) b y hd' hb h
theorem getI_zero {α : Type} {L : List α} {y : α} (h : L[0]? = some y) : getI L 0 = some y := getI_of (i := 0) h
end Go.Proofs.XC
