/- Plain laws of the plain functions: no program, no memory. By AI agents; no person has read it. -/
import Derived.Test.YtldkmmopfhhdgaaGreatDoorPR3
set_option linter.unusedVariables false
set_option linter.unusedSimpArgs false
set_option maxRecDepth 100000
set_option maxHeartbeats 40000000
namespace Go.Proofs.XC
open Go Go.RowKit
/-! ### Rows of rows of numbers: are they one, marked, held -/
def totR : List (List Int) → Int
  | [] => 0
  | r :: l => (r.length : Int) + totR l
theorem totR_nonneg : ∀ l, 0 ≤ totR l
  | [] => by simp [totR]
  | r :: l => by have := totR_nonneg l; rw [totR]; omega
theorem totR_le : ∀ (l : List (List Int)), (∀ r ∈ l, r.length ≤ 1000) → totR l ≤ 1000 * (l.length : Int)
  | [], _ => by simp [totR]
  | r :: l, h => by
    have h1 := totR_le l (fun r hr => h r (List.mem_cons_of_mem _ hr))
    have h2 := h r List.mem_cons_self
    rw [totR, List.length_cons]
    omega
def mkR : Int → List (List Int) → List (List Int)
  | _, [] => []
  | k, r :: l => mks (fun q => q) 1 k r.length :: mkR (k + (r.length : Int)) l
theorem mkR_len : ∀ (k : Int) (l : List (List Int)), (mkR k l).length = l.length
  | _, [] => rfl
  | k, r :: l => by rw [mkR, List.length_cons, mkR_len, List.length_cons]
theorem mid_get {α : Type} (A B : List α) (x : α) : (A ++ x :: B)[A.length]? = some x := by simp
theorem mid_set {α : Type} (A B : List α) (x y : α) : (A ++ x :: B).set A.length y = A ++ y :: B := by simp
theorem mark_rows {body : Int × Int × List (List Int) → Option ((Int × Int × List (List Int)) ⊕ (Int × List (List Int)))}
    (h1 : ∀ (A B : List (List Int)) r k, A.length ≤ 1000 → r.length ≤ 1000 → 0 ≤ k → k ≤ 1000000000 → body (k, (A.length : Int), A ++ r :: B) = some (.inl (k + (r.length : Int), ((A.length + 1 : Nat) : Int), A ++ mks (fun q => q) 1 k r.length :: B)))
    (h2 : ∀ (A : List (List Int)) k, body (k, (A.length : Int), A) = some (.inr (k, A))) :
    ∀ (L A : List (List Int)) (k : Int) (fu : Nat), A.length + L.length ≤ 1000 → (∀ r ∈ L, r.length ≤ 1000) → 0 ≤ k → k + totR L ≤ 1000000000 → L.length < fu → loopM body fu (k, (A.length : Int), A ++ L) = some (k + totR L, A ++ mkR k L) := by
  intro L
  induction L with
  | nil =>
    intro A k fu _ _ _ _ hf
    obtain ⟨n, rfl⟩ : ∃ n, fu = n + 1 := ⟨fu - 1, by simp at hf; omega⟩
    rw [loopM_succ, List.append_nil, h2]
    simp [bind_some, totR, mkR]
  | cons r L ih =>
    intro A k fu hA hr hk hb hf
    obtain ⟨n, rfl⟩ : ∃ n, fu = n + 1 := ⟨fu - 1, by omega⟩
    have hr0 := hr r List.mem_cons_self
    have ht := totR_nonneg L
    rw [totR] at hb
    rw [List.length_cons] at hA hf
    rw [loopM_succ, h1 A L r k (by omega) hr0 hk (by omega), bind_some]
    have := ih (A ++ [mks (fun q => q) 1 k r.length]) (k + (r.length : Int)) n (by rw [List.length_append, List.length_singleton]; omega) (fun r hr' => hr r (List.mem_cons_of_mem _ hr')) (by omega) (by omega) (by omega)
    rw [List.length_append, List.length_singleton, List.append_assoc, List.singleton_append] at this
    simp only [this, totR, mkR, List.append_assoc, List.singleton_append, Int.add_assoc]
theorem held_rows {F : List (List Int)} {body : Int × Int → Option ((Int × Int) ⊕ (Int ⊕ Int))}
    (h1 : ∀ (A B : List (List Int)) (n : Nat) k, F = A ++ mks (fun q => q) 1 k n :: B → A.length ≤ 1000 → n ≤ 1000 → 0 ≤ k → k ≤ 1000000000 → body (k, (A.length : Int)) = some (.inl (k + (n : Int), ((A.length + 1 : Nat) : Int))))
    (h2 : ∀ k, body (k, (F.length : Int)) = some (.inr (.inr k))) :
    ∀ (L A : List (List Int)) (k : Int) (fu : Nat), F = A ++ mkR k L → A.length + L.length ≤ 1000 → (∀ r ∈ L, r.length ≤ 1000) → 0 ≤ k → k + totR L ≤ 1000000000 → L.length < fu → loopM body fu (k, (A.length : Int)) = some (.inr (k + totR L)) := by
  intro L
  induction L with
  | nil =>
    intro A k fu hF _ _ _ _ hf
    obtain ⟨n, rfl⟩ : ∃ n, fu = n + 1 := ⟨fu - 1, by simp at hf; omega⟩
    have hF' : F = A := by rw [hF, mkR, List.append_nil]
    subst hF'
    rw [loopM_succ, h2]
    simp [bind_some, totR]
  | cons r L ih =>
    intro A k fu hF hA hr hk hb hf
    obtain ⟨n, rfl⟩ : ∃ n, fu = n + 1 := ⟨fu - 1, by omega⟩
    have hr0 := hr r List.mem_cons_self
    have ht := totR_nonneg L
    rw [totR] at hb
    rw [List.length_cons] at hA hf
    rw [mkR] at hF
    rw [loopM_succ, h1 A _ r.length k hF (by omega) hr0 hk (by omega), bind_some]
    have := ih (A ++ [mks (fun q => q) 1 k r.length]) (k + (r.length : Int)) n (by rw [hF]; simp) (by rw [List.length_append, List.length_singleton]; omega) (fun r hr' => hr r (List.mem_cons_of_mem _ hr')) (by omega) (by omega) (by omega)
    rw [List.length_append, List.length_singleton] at this
    simp only [this, totR, Int.add_assoc]
/-! #### Bounds -/
theorem tab_bnd {l : List Sign} (h : l.length ≤ 20) : (tab l).length ≤ 1000 ∧ ∀ r ∈ tab l, r.length ≤ 1000 := by
  unfold tab
  refine ⟨by rw [List.length_map]; omega, fun r hr => ?_⟩
  obtain ⟨x, _, rfl⟩ := List.mem_map.1 hr
  rw [List.length_map]
  omega
theorem prsG_bnd {p : Sign → Sign → Bool} {L : List Sign} (hL : L.length ≤ 16) : (prsG p L).length ≤ 1000 ∧ ∀ r ∈ prsG p L, r.length ≤ 1000 := by
  have key : (prsG p L).length ≤ (0 + L.length) * 16 ∧ ∀ r ∈ prsG p L, r.length ≤ 1000 := by
    unfold prsG
    refine rng_inv (σ := List (List Int)) (fun i x acc => rng (fun k y acc => if p x y then acc ++ [[(i : Int), (k : Int)]] else acc) (L.drop (i + 1)) (i + 1) acc) (fun i acc => acc.length ≤ i * 16 ∧ ∀ r ∈ acc, r.length ≤ 1000) L 0 [] (fun i x acc _ hi hv => ?_) ⟨by simp, by simp⟩
    · have := rng_inv (σ := List (List Int)) (fun k y acc => if p x y then acc ++ [[(i : Int), (k : Int)]] else acc) (fun k (acc : List (List Int)) => acc.length ≤ i * 16 + k ∧ ∀ r ∈ acc, r.length ≤ 1000) (L.drop (i + 1)) (i + 1) acc (fun k y acc _ hk hv => by
        split
        · refine ⟨by rw [List.length_append, List.length_singleton]; omega, fun r hr => ?_⟩
          rcases List.mem_append.1 hr with h | h
          · exact hv.2 r h
          · rw [List.mem_singleton] at h
            rw [h]
            simp
        · exact ⟨by omega, hv.2⟩) ⟨by omega, hv.2⟩
      rw [List.length_drop] at this
      exact ⟨by omega, this.2⟩
  exact ⟨by omega, key.2⟩
def vTab (l : List Sign) : List (List Int) × Bool := if l.all gSign && decide (l.length ≤ 20) then (tab l, true) else ([], false)
theorem vTab_bnd (l : List Sign) : (vTab l).1.length ≤ 1000 ∧ ∀ r ∈ (vTab l).1, r.length ≤ 1000 := by
  unfold vTab
  split
  · rename_i h
    exact tab_bnd (by simp at h; exact h.2)
  · simp
theorem vBy_bnd (l : List Sign) (z : Int) : (vBy l z).1.length ≤ 1000 ∧ ∀ r ∈ (vBy l z).1, r.length ≤ 1000 := by
  unfold vBy
  split
  · rename_i h
    exact prsG_bnd (by simp at h; exact h.1.2)
  · simp
theorem vMinimal_bnd (l : List Sign) : (vMinimal l).1.length ≤ 1000 ∧ ∀ r ∈ (vMinimal l).1, r.length ≤ 1000 := by
  unfold vMinimal
  split
  · rename_i h
    exact prsG_bnd (by simp at h; exact h.2)
  · simp
theorem i_Tab_eq {k : Nat} {l : List Sign} (hs : ∀ s ∈ l, smallS s) (hk : 100 ≤ k) : X.i_DistanceTable k l = some (vTab l) := i_Table_eq hs hk
theorem s_Tab_eq {k : Nat} {l : List Sign} (hs : ∀ s ∈ l, smallS s) (hk : 2000010 ≤ k) : X.s_DistanceTable k l = some (vTab l) := s_Table_eq hs hk
end Go.Proofs.XC
