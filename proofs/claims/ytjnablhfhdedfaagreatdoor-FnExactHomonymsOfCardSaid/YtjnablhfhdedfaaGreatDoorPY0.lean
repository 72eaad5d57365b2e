/- Plain laws of the plain functions: no program, no memory. By AI agents; no person has read it. -/
import Derived.Test.YtjnablhfhdedfaaGreatDoorPX10
set_option linter.unusedVariables false
set_option linter.unusedSimpArgs false
set_option maxRecDepth 100000
set_option maxHeartbeats 40000000
namespace Go.Proofs.XC
open Go Go.RowKit
/-! ### Loops over an index -/
theorem wr_suc {n : Nat} (h : n ≤ 4611686018427387904) : wr ((n : Int) + 1) = ((n + 1 : Nat) : Int) := by
  rw [wr_of (by omega) (by omega)]
  omega
theorem getI_of {α : Type} {l : List α} {i : Nat} {x : α} (h : l[i]? = some x) : getI l (i : Int) = some x := by
  unfold getI
  rw [if_pos (by omega)]
  simpa using h
theorem lt_get {α : Type} {l : List α} {i : Nat} {x : α} (h : l[i]? = some x) : i < l.length := (List.getElem?_eq_some_iff.1 h).1
theorem dec_lt {α : Type} {l : List α} {i : Nat} {x : α} (h : l[i]? = some x) : decide ((i : Int) < (l.length : Int)) = true := by
  have := lt_get h
  simp
  omega
theorem dec_end (n : Nat) : decide ((n : Int) < (n : Int)) = false := by simp
theorem loopF {α σ τ ρ : Type} {body : τ → Option (τ ⊕ ρ)} {k : Nat} (en : Nat → σ → τ) (l : List α) (g : Nat → α → σ → σ ⊕ ρ) (f : σ → ρ) (inv : Nat → σ → Prop) {s0 : σ} (hv : inv 0 s0)
    (h1 : ∀ (i : Nat) x s, l[i]? = some x → inv i s → body (en i s) = some (match g i x s with | .inl s' => .inl (en (i + 1) s') | .inr r => .inr r))
    (h2 : ∀ s, inv l.length s → body (en l.length s) = some (.inr (f s)))
    (hi : ∀ (i : Nat) x s s', l[i]? = some x → inv i s → g i x s = .inl s' → inv (i + 1) s') (hk : l.length < k) : loopM body k (en 0 s0) = some (foldS g f l 0 s0) := by
  have key : ∀ (r : List α) (i k : Nat) (s : σ), l.drop i = r → i ≤ l.length → inv i s → r.length < k → loopM body k (en i s) = some (foldS g f r i s) := by
    intro r
    induction r with
    | nil =>
      intro i k s hd hi' hv hk
      have : l.length ≤ i := List.drop_eq_nil_iff.1 hd
      have hil : i = l.length := by omega
      subst hil
      obtain ⟨k, rfl⟩ : ∃ q, k = q + 1 := ⟨k - 1, by simp at hk; omega⟩
      rw [loopM_succ, h2 s hv]
      rfl
    | cons x r ih =>
      intro i k s hd hi' hv hk
      have hlt : i < l.length := by
        rcases Nat.lt_or_ge i l.length with h | h
        · exact h
        · rw [List.drop_eq_nil_of_le h] at hd; cases hd
      have hx : l[i]? = some x := by
        have := congrArg (fun l => l[0]?) hd
        simpa using this
      have hd' : l.drop (i + 1) = r := by rw [← List.drop_drop (i := 1) (j := i), hd]; rfl
      obtain ⟨k, rfl⟩ : ∃ q, k = q + 1 := ⟨k - 1, by simp at hk; omega⟩
      rw [loopM_succ, h1 i x s hx hv, bind_some, foldS]
      cases hg : g i x s with
      | inr q => rfl
      | inl s' => exact ih (i + 1) k s' hd' (by omega) (hi i x s s' hx hv hg) (by simp at hk ⊢; omega)
  exact key l 0 k s0 rfl (Nat.zero_le _) hv hk
/-- A loop without an end ahead of the end. -/
theorem foldS_inl {α σ ρ : Type} (g : Nat → α → σ → σ) (f : σ → ρ) : ∀ (l : List α) (j : Nat) (s : σ), ∃ s', foldS (fun i x s => (Sum.inl (g i x s) : σ ⊕ ρ)) f l j s = f s'
  | [], j, s => ⟨s, rfl⟩
  | x :: l, j, s => foldS_inl g f l (j + 1) (g j x s)
/-- A copy, element by element. -/
theorem copy_gen {α β : Type} {e : Enc β} {z : β} (l : List α) (F : α → β) {body : Int × List β → Option ((Int × List β) ⊕ List β)} {k : Nat} (hby : e.by_ * l.length ≤ 140737488355328) (hlen : l.length ≤ 4611686018427387904) (hk : l.length < k)
    (h1 : ∀ (i : Nat) x s, l[i]? = some x → s.length = l.length → body ((i : Int), s) = some (.inl (((i + 1 : Nat) : Int), s.set i (F x)))) (h2 : ∀ s, body ((l.length : Int), s) = some (.inr s)) :
    (Option.bind (mkI e z (l.length : Int)) fun y => Option.bind (loopM body k (0, y)) fun r => some r) = some (l.map F) := by
  have hm : mkI e z (l.length : Int) = some (List.replicate l.length z) := by
    unfold mkI
    rw [if_pos ⟨by omega, by simpa using hby⟩]
    simp
  rw [hm, bind_some]
  have key : loopM body k (0, List.replicate l.length z) = some (l.map F) := by
    have := loopF (body := body) (k := k) (σ := List β) (ρ := List β) (fun i s => ((i : Int), s)) l (fun i x s => .inl (s.set i (F x))) (fun s => s) (fun i s => s.length = l.length ∧ ∀ j, j < i → s[j]? = (l[j]?).map F) (s0 := List.replicate l.length z) ⟨by simp, fun j hj => by omega⟩
      (fun i x s hx hv => h1 i x s hx hv.1) (fun s _ => h2 s) (fun i x s s' hx hv hg => by
        simp only [Sum.inl.injEq] at hg
        subst hg
        refine ⟨by rw [List.length_set]; exact hv.1, fun j hj => ?_⟩
        by_cases hji : i = j
        · subst hji
          rw [List.getElem?_set_self (by rw [hv.1]; exact lt_get hx), hx]
          rfl
        · rw [List.getElem?_set_ne hji]
          exact hv.2 j (by omega)) hk
    have e0 : ((0 : Int), List.replicate l.length z) = (((0 : Nat) : Int), List.replicate l.length z) := rfl
    rw [e0, this]
    congr 1
    have gen : ∀ (r : List α) (i : Nat) (s : List β), l.drop i = r → i ≤ l.length → s.length = l.length → (∀ j, j < i → s[j]? = (l[j]?).map F) → foldS (fun i x s => (Sum.inl (s.set i (F x)) : List β ⊕ List β)) (fun s => s) r i s = l.map F := by
      intro r
      induction r with
      | nil =>
        intro i s hd hi hs hv
        have : l.length ≤ i := List.drop_eq_nil_iff.1 hd
        apply List.ext_getElem?
        intro j
        show s[j]? = _
        rw [List.getElem?_map]
        rcases Nat.lt_or_ge j i with h | h
        · exact hv j h
        · rw [List.getElem?_eq_none (by omega), List.getElem?_eq_none (by omega)]
          rfl
      | cons x r ih =>
        intro i s hd hi hs hv
        have hx : l[i]? = some x := by
          have := congrArg (fun l => l[0]?) hd
          simpa using this
        have hd' : l.drop (i + 1) = r := by rw [← List.drop_drop (i := 1) (j := i), hd]; rfl
        have hlt := lt_get hx
        refine ih (i + 1) (s.set i (F x)) hd' (by omega) (by rw [List.length_set]; exact hs) fun j hj => ?_
        by_cases hji : i = j
        · subst hji
          rw [List.getElem?_set_self (by omega), hx]
          rfl
        · rw [List.getElem?_set_ne hji]
          exact hv j (by omega)
    exact gen l 0 _ rfl (Nat.zero_le _) (by simp) (fun j hj => by omega)
  rw [key]
  rfl
/-- Are two rows one? -/
theorem same_gen {α : Type} [DecidableEq α] (l m : List α) {body : Int → Option (Int ⊕ (Bool ⊕ Unit))} {k : Nat} (hlen : l.length = m.length) (hk : l.length < k)
    (h1 : ∀ (i : Nat) x y, l[i]? = some x → m[i]? = some y → body (i : Int) = some (if x = y then .inl ((i + 1 : Nat) : Int) else .inr (.inl false))) (h2 : body (l.length : Int) = some (.inr (.inr ()))) :
    orEl (loopM body k 0) (fun r => some r) (fun _ => some true) = some (decide (l = m)) := by
  have h := loopF (body := body) (k := k) (σ := Unit) (fun i _ => (i : Int)) (l.zip m) (fun i x _ => if x.1 = x.2 then .inl () else .inr (.inl false)) (fun _ => .inr ()) (fun _ _ => True) (s0 := ()) trivial
    (fun i x s hx _ => by
      obtain ⟨x1, x2⟩ := x
      rw [List.getElem?_zip_eq_some] at hx
      simp only
      rw [h1 i x1 x2 hx.1 hx.2]
      by_cases h : x1 = x2 <;> simp [h]) (fun s _ => by rw [List.length_zip, ← hlen, Nat.min_self]; exact h2) (fun _ _ _ _ _ _ _ => trivial) (by rw [List.length_zip, ← hlen, Nat.min_self]; exact hk)
  have e0 : (0 : Int) = ((0 : Nat) : Int) := rfl
  rw [e0, h]
  have gen : ∀ (l m : List α) (j : Nat), l.length = m.length → foldS (fun i (x : α × α) (_ : Unit) => if x.1 = x.2 then (Sum.inl () : Unit ⊕ (Bool ⊕ Unit)) else .inr (.inl false)) (fun _ => .inr ()) (l.zip m) j () = if l = m then .inr () else .inl false := by
    intro l
    induction l with
    | nil =>
      intro m j hl
      cases m with
      | nil => rfl
      | cons _ _ => cases hl
    | cons x l ih =>
      intro m j hl
      cases m with
      | nil => cases hl
      | cons y m =>
        simp only [List.zip_cons_cons, foldS, List.cons.injEq]
        by_cases hxy : x = y
        · simp only [hxy, if_true, true_and]
          exact ih m (j + 1) (by simpa using hl)
        · simp [hxy]
  rw [gen l m 0 hlen]
  by_cases h : l = m <;> simp [h, orEl]
/-- Sizes taken off, one by one. -/
theorem size_gen {α : Type} (l : List α) (F : α → Int → Option Int) (small : α → Prop) {body : Int × Int → Option ((Int × Int) ⊕ (Int ⊕ Int))} {k : Nat} {z : Int} (hz0 : 0 ≤ z) (hz : z ≤ 1048576) (hlen : l.length ≤ 4611686018427387904) (hk : l.length < k)
    (hF : ∀ x ∈ l, ∀ z : Int, 0 ≤ z → z ≤ 1048576 → ∃ r, F x z = some r ∧ (r < 0 ∨ (small x ∧ 0 ≤ r ∧ r ≤ z)))
    (h1 : ∀ (i : Nat) x (z : Int), l[i]? = some x → body (z, (i : Int)) = Option.bind (F x z) fun v => bif decide (v < 0) then some (.inr (.inl (-1))) else some (.inl (v, wr ((i : Int) + 1)))) (h2 : ∀ z : Int, body (z, (l.length : Int)) = some (.inr (.inr z))) :
    ∃ r, orEl (loopM body k (z, 0)) (fun r => some r) (fun n => some n) = some r ∧ (r < 0 ∨ ((∀ x ∈ l, small x) ∧ 0 ≤ r ∧ r ≤ z)) := by
  have gen : ∀ (r : List α) (i k : Nat) (z : Int), l.drop i = r → i ≤ l.length → 0 ≤ z → z ≤ 1048576 → r.length < k → ∃ q, loopM body k (z, (i : Int)) = some q ∧ (q = .inl (-1) ∨ ∃ z', q = .inr z' ∧ (∀ x ∈ r, small x) ∧ 0 ≤ z' ∧ z' ≤ z) := by
    intro r
    induction r with
    | nil =>
      intro i k z hd hi h0 hz hk
      have : l.length ≤ i := List.drop_eq_nil_iff.1 hd
      have hil : i = l.length := by omega
      subst hil
      obtain ⟨k, rfl⟩ : ∃ q, k = q + 1 := ⟨k - 1, by simp at hk; omega⟩
      rw [loopM_succ, h2]
      exact ⟨.inr z, rfl, .inr ⟨z, rfl, (fun x hx => by cases hx), h0, Int.le_refl _⟩⟩
    | cons x r ih =>
      intro i k z hd hi h0 hz hk
      have hx : l[i]? = some x := by
        have := congrArg (fun l => l[0]?) hd
        simpa using this
      have hd' : l.drop (i + 1) = r := by rw [← List.drop_drop (i := 1) (j := i), hd]; rfl
      have hlt := lt_get hx
      obtain ⟨k, rfl⟩ : ∃ q, k = q + 1 := ⟨k - 1, by simp at hk; omega⟩
      obtain ⟨v, hv, hv2⟩ := hF x (List.mem_of_getElem? hx) z h0 hz
      rw [loopM_succ, h1 i x z hx, hv, bind_some]
      rcases hv2 with hv2 | ⟨hs, hv2, hv3⟩
      · have : decide (v < 0) = true := by simpa using hv2
        rw [this, cond_true, bind_some]
        exact ⟨.inl (-1), rfl, .inl rfl⟩
      · have : decide (v < 0) = false := by simpa using hv2
        rw [this, cond_false, bind_some, wr_suc (by omega)]
        obtain ⟨q, hq, hq2⟩ := ih (i + 1) k v hd' (by omega) hv2 (by omega) (by simp at hk ⊢; omega)
        refine ⟨q, hq, ?_⟩
        rcases hq2 with hq2 | ⟨z', hq2, hq3, hq4, hq5⟩
        · exact .inl hq2
        · refine .inr ⟨z', hq2, fun y hy => ?_, hq4, by omega⟩
          rcases List.mem_cons.1 hy with rfl | hy
          · exact hs
          · exact hq3 y hy
  obtain ⟨q, hq, hq2⟩ := gen l 0 k z rfl (Nat.zero_le _) hz0 hz hk
  have e0 : (z, (0 : Int)) = (z, ((0 : Nat) : Int)) := rfl
  rw [e0, hq]
  rcases hq2 with rfl | ⟨z', rfl, h3, h4, h5⟩
  · exact ⟨-1, rfl, .inl (by omega)⟩
  · exact ⟨z', rfl, .inr ⟨h3, h4, h5⟩⟩
end Go.Proofs.XC
