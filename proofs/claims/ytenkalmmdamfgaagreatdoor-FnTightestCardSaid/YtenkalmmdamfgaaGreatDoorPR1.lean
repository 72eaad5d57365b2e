/- Plain laws of the plain functions: no program, no memory. By AI agents; no person has read it. -/
import Derived.Test.YtenkalmmdamfgaaGreatDoorPQ1
set_option linter.unusedVariables false
set_option linter.unusedSimpArgs false
set_option maxRecDepth 100000
set_option maxHeartbeats 40000000
namespace Go.Proofs.XC
open Go Go.RowKit
/-! ### Folds with an index; the loops that make them -/
def rng {α σ : Type} (g : Nat → α → σ → σ) : List α → Nat → σ → σ
  | [], _, s => s
  | x :: l, i, s => rng g l (i + 1) (g i x s)
theorem rng_rangeM {α σ τ ρ : Type} (mk : σ → τ) {body : Int → α → τ → Option (τ ⊕ ρ)} {fin : τ → Option ρ} (g : Nat → α → σ → σ) (inv : Nat → σ → Prop) (L : List α)
    (h1 : ∀ i x s, L[i]? = some x → inv i s → body (i : Int) x (mk s) = some (.inl (mk (g i x s))) ∧ inv (i + 1) (g i x s)) :
    ∀ (l : List α) (j : Nat) (s : σ), L.drop j = l → inv j s → rangeM body fin l j (mk s) = fin (mk (rng g l j s)) ∧ inv (j + l.length) (rng g l j s)
  | [], j, s, _, hv => ⟨rfl, hv⟩
  | x :: l, j, s, hd, hv => by
    have hx : L[j]? = some x := by
      have := congrArg (fun l => l[0]?) hd
      simpa using this
    have hd' : L.drop (j + 1) = l := by rw [← List.drop_drop (i := 1) (j := j), hd]; rfl
    obtain ⟨a, b⟩ := h1 j x s hx hv
    rw [rangeM_cons, a, bind_some, rng, List.length_cons, show j + (l.length + 1) = j + 1 + l.length by omega]
    exact rng_rangeM mk g inv L h1 l (j + 1) _ hd' b
theorem some_len {α : Type} {L : List α} {i : Nat} {x : α} (h : L[i]? = some x) : i < L.length := by
  rcases Nat.lt_or_ge i L.length with h1 | h1
  · exact h1
  · rw [List.getElem?_eq_none h1] at h; cases h
theorem decL {i n : Nat} (h : i < n) : decide ((i : Int) < (n : Int)) = true := by simp; omega
theorem decE (n : Nat) : decide ((n : Int) < (n : Int)) = false := by simp
/-! ### The table of distances -/
theorem appI {l : List Int} {x : Int} (h : l.length ≤ 1000000) : appG (eI .i64) l [x] = some (l ++ [x]) := by
  unfold appG
  have hby : (eI .i64).by_ = 8 := rfl
  rw [if_pos]
  rw [hby]
  simp only [List.length_cons, List.length_nil]
  omega
/-! #### The sign in the middle -/
def mid (f : Sign → Int) (i : Nat) (x : Sign) (s : Int × Int) : Int × Int := if s.1 < 0 ∨ f x < s.2 then ((i : Int), f x) else s
/-! #### The pair farthest apart -/
end Go.Proofs.XC
