/- Plain laws of the plain functions: no program, no memory. By AI agents; no person has read it. -/
import Derived.Test.YtkckmehkialgjaaGreatDoorPQ1
set_option linter.unusedVariables false
set_option linter.unusedSimpArgs false
set_option maxRecDepth 100000
set_option maxHeartbeats 40000000
namespace Go.Proofs.XC
open Go Go.RowKit
/-! ### Folds with an index; the loops that make them -/
def rng {α σ : Type} (g : Nat → α → σ → σ) : List α → Nat → σ → σ
  | [], _, s => s
  | x :: l, i, s => rng g l (i + 1) (g i x s)
theorem rng_map {α β σ : Type} (g : Nat → β → σ → σ) (h : α → β) : ∀ (l : List α) (j : Nat) (s : σ), rng g (l.map h) j s = rng (fun i x s => g i (h x) s) l j s
  | [], _, _ => rfl
  | x :: l, j, s => by rw [List.map_cons, rng, rng]; exact rng_map g h l (j + 1) _
theorem rng_range {α σ ρ : Type} {body : Int → α → σ → Option (σ ⊕ ρ)} {fin : σ → Option ρ} (g : Nat → α → σ → σ) (inv : Nat → σ → Prop) (L : List α)
    (h1 : ∀ i x s, L[i]? = some x → inv i s → body (i : Int) x s = some (.inl (g i x s)) ∧ inv (i + 1) (g i x s)) :
    ∀ (l : List α) (j : Nat) (s : σ), L.drop j = l → inv j s → rangeM body fin l j s = fin (rng g l j s) ∧ inv (j + l.length) (rng g l j s)
  | [], j, s, _, hv => ⟨rfl, hv⟩
  | x :: l, j, s, hd, hv => by
    have hx : L[j]? = some x := by
      have := congrArg (fun l => l[0]?) hd
      simpa using this
    have hd' : L.drop (j + 1) = l := by rw [← List.drop_drop (i := 1) (j := j), hd]; rfl
    obtain ⟨a, b⟩ := h1 j x s hx hv
    rw [rangeM_cons, a, bind_some, rng, List.length_cons, show j + (l.length + 1) = j + 1 + l.length by omega]
    exact rng_range g inv L h1 l (j + 1) _ hd' b
theorem rng_rangeM {α σ τ ρ : Type} (mk : σ → τ) {body : Int → α → τ → Option (τ ⊕ ρ)} {fin : τ → Option ρ} (g : Nat → α → σ → σ) (inv : Nat → σ → Prop) (L : List α)
    (h1 : ∀ i x s, L[i]? = some x → inv i s → body (i : Int) x (mk s) = some (.inl (mk (g i x s))) ∧ inv (i + 1) (g i x s)) :
    ∀ (l : List α) (j : Nat) (s : σ), L.drop j = l → inv j s → rangeM body fin l j (mk s) = fin (mk (rng g l j s)) ∧ inv (j + l.length) (rng g l j s)
  | [], j, s, _, hv => ⟨rfl, hv⟩
  | x :: l, j, s, hd, hv => by
    have hx : L[j]? = some x := by
      have := congrArg (fun l => l[0]?) hd
      simpa using this
    have hd' : L.drop (j + 1) = l := by rw [← List.drop_drop (i := 1) (j := j), hd]; rfl
    obtain ⟨a, b⟩ := h1 j x s hx hv
    rw [rangeM_cons, a, bind_some, rng, List.length_cons, show j + (l.length + 1) = j + 1 + l.length by omega]
    exact rng_rangeM mk g inv L h1 l (j + 1) _ hd' b
theorem rng_loop {α σ τ ρ : Type} {body : τ → Option (τ ⊕ ρ)} (mk : Nat → σ → τ) (fin : σ → ρ) (g : Nat → α → σ → σ) (inv : Nat → σ → Prop) (L : List α)
    (h1 : ∀ i x s, L[i]? = some x → inv i s → body (mk i s) = some (.inl (mk (i + 1) (g i x s))) ∧ inv (i + 1) (g i x s))
    (h2 : ∀ s, inv L.length s → body (mk L.length s) = some (.inr (fin s))) :
    ∀ (r : List α) (i fu : Nat) (s : σ), L.drop i = r → i ≤ L.length → inv i s → r.length < fu → loopM body fu (mk i s) = some (fin (rng g r i s)) ∧ inv L.length (rng g r i s) := by
  intro r
  induction r with
  | nil =>
    intro i fu s hd hl hv hf
    have hle : L.length ≤ i := List.drop_eq_nil_iff.1 hd
    have : i = L.length := by omega
    subst this
    obtain ⟨n, rfl⟩ : ∃ n, fu = n + 1 := ⟨fu - 1, by simp at hf; omega⟩
    rw [loopM_succ, h2 s hv]
    exact ⟨rfl, hv⟩
  | cons x r ih =>
    intro i fu s hd hl hv hf
    have hlt : i < L.length := by
      rcases Nat.lt_or_ge i L.length with h | h
      · exact h
      · rw [List.drop_eq_nil_of_le h] at hd; cases hd
    have hx : L[i]? = some x := by
      have := congrArg (fun l => l[0]?) hd
      simpa using this
    have hd' : L.drop (i + 1) = r := by rw [← List.drop_drop (i := 1) (j := i), hd]; rfl
    obtain ⟨n, rfl⟩ : ∃ n, fu = n + 1 := ⟨fu - 1, by omega⟩
    obtain ⟨a, b⟩ := h1 i x s hx hv
    rw [loopM_succ, a, bind_some, rng]
    exact ih (i + 1) n _ hd' (by omega) b (by simp at hf; omega)
theorem some_len {α : Type} {L : List α} {i : Nat} {x : α} (h : L[i]? = some x) : i < L.length := by
  rcases Nat.lt_or_ge i L.length with h1 | h1
  · exact h1
  · rw [List.getElem?_eq_none h1] at h; cases h
theorem mem_of {α : Type} {L : List α} {i : Nat} {x : α} (h : L[i]? = some x) : x ∈ L := List.mem_of_getElem? h
theorem drop_le {α : Type} (L : List α) (i : Nat) : (L.drop i).length ≤ L.length := by simp
theorem decL {i n : Nat} (h : i < n) : decide ((i : Int) < (n : Int)) = true := by simp; omega
theorem decE (n : Nat) : decide ((n : Int) < (n : Int)) = false := by simp
/-! ### The table of distances -/
def tab (l : List Sign) : List (List Int) := l.map fun x => l.map (farG x)
theorem tab_get {l : List Sign} {i : Nat} {x : Sign} (h : l[i]? = some x) : getI (tab l) (i : Int) = some (l.map (farG x)) := getI_of (by unfold tab; rw [List.getElem?_map, h]; rfl)
theorem row_get {l : List Sign} {i : Nat} {x y : Sign} (h : l[i]? = some x) : getI (l.map (farG y)) (i : Int) = some (farG y x) := getI_of (by rw [List.getElem?_map, h]; rfl)
theorem rng_app {α β : Type} (h : α → β) : ∀ (l : List α) (j : Nat) (acc : List β), rng (fun _ x acc => acc ++ [h x]) l j acc = acc ++ l.map h
  | [], _, acc => by simp [rng]
  | x :: l, j, acc => by rw [rng, rng_app h l]; simp
theorem appI {l : List Int} {x : Int} (h : l.length ≤ 1000000) : appG (eI .i64) l [x] = some (l ++ [x]) := by
  unfold appG
  have hby : (eI .i64).by_ = 8 := rfl
  rw [if_pos]
  rw [hby]
  simp only [List.length_cons, List.length_nil]
  omega
theorem appDD {l : List (List Int)} {x : List Int} (h : l.length ≤ 1000000) : appD l [x] = some (l ++ [x]) := by
  unfold appD
  rw [if_pos]
  simp only [List.length_cons, List.length_nil]
  omega
/-! #### The sign in the middle -/
def lessB (a b : Int) : Bool := decide (a < b)
def sumW (l : List Int) : Int := rng (fun _ x n => wr (n + x)) l 0 0
def fS (l : List Sign) (x : Sign) : Int := sumW (l.map (farG x))
theorem arg_map {α β : Type} (c : Int → Int → Bool) (f : β → Int) (h : α → β) : ∀ (l : List α) (j : Nat) (s : Int × Int), arg c f (l.map h) j s = arg c (fun x => f (h x)) l j s
  | [], _, _ => rfl
  | x :: l, j, s => by rw [List.map_cons, arg, arg]; exact arg_map c f h l (j + 1) _
def mid (f : Sign → Int) (i : Nat) (x : Sign) (s : Int × Int) : Int × Int := if s.1 < 0 ∨ f x < s.2 then ((i : Int), f x) else s
theorem mid_arg (f : Sign → Int) : ∀ (l : List Sign) (j : Nat) (s : Int × Int), 0 ≤ s.1 → rng (mid f) l j s = arg lessB f l j s
  | [], _, _, _ => rfl
  | x :: l, j, s, h => by
    rw [rng, arg]
    unfold mid lessB
    by_cases hc : f x < s.2
    · rw [if_pos (Or.inr hc)]
      simp only [hc, decide_true, if_true]
      exact mid_arg f l (j + 1) _ (by simp)
    · rw [if_neg (by intro hh; rcases hh with hh | hh <;> omega)]
      simp only [hc, decide_false, Bool.false_eq_true, if_false]
      exact mid_arg f l (j + 1) _ h
def vMid (l : List Sign) : Int × Int × Bool := if l.all gSign && decide (l.length ≤ 20) && !(decide (l.length = 0)) then ((rng (mid (fS l)) l 0 (-1, 0)).1, (rng (mid (fS l)) l 0 (-1, 0)).2, true) else (0, 0, false)
/-! #### The pair farthest apart -/
def fpS {α : Type} (f : α → Int) (i k : Nat) (x : α) (s : Int × Int × Int) : Int × Int × Int := if f x > s.2.2 then ((i : Int), (k : Int), f x) else s
def fpP (l : List Sign) (s : Int × Int × Int) : Int × Int × Int := rng (fun i x s => rng (fun k y s => fpS (farG x) i k y s) (l.drop (i + 1)) (i + 1) s) l 0 s
def vFarPair (l : List Sign) : Int × Int × Int × Bool := if l.all gSign && decide (l.length ≤ 20) && !(decide ((l.length : Int) < 2)) then ((fpP l (0, 0, -1)).1, (fpP l (0, 0, -1)).2.1, (fpP l (0, 0, -1)).2.2, true) else (0, 0, 0, false)
end Go.Proofs.XC
