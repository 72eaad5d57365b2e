/- Plain laws of the plain functions: no program, no memory. By AI agents; no person has read it. -/
import Derived.Test.YtjnablhfhdedfaaGreatDoorPY4
set_option linter.unusedVariables false
set_option linter.unusedSimpArgs false
set_option maxRecDepth 100000
set_option maxHeartbeats 40000000
namespace Go.Proofs.XC
open Go Go.RowKit
/-! ### Rows that are marked, and looked at again -/
def mks {α : Type} (mk : Int → α) (c k : Int) (n : Nat) : List α := (List.range n).map fun (i : Nat) => mk (k + c * (i : Int))
theorem mks_len {α : Type} (mk : Int → α) (c k : Int) (n : Nat) : (mks mk c k n).length = n := by simp [mks]
theorem mks_get {α : Type} (mk : Int → α) (c k : Int) {n i : Nat} (h : i < n) : (mks mk c k n)[i]? = some (mk (k + c * (i : Int))) := by simp [mks, h]
theorem mul_le_big {c : Int} {i n : Nat} (hc0 : 0 ≤ c) (hc : c ≤ 100) (hi : i ≤ n) (hn : n ≤ 1048576) : 0 ≤ c * (i : Int) ∧ c * (i : Int) ≤ 104857600 := by
  constructor
  · exact Int.mul_nonneg hc0 (by omega)
  · have h1 : c * (i : Int) ≤ 100 * (i : Int) := Int.mul_le_mul_of_nonneg_right hc (by omega)
    omega
theorem mark_gen {α : Type} (mk : Int → α) {c k : Int} (l : List α) {body : Int × Int × List α → Option ((Int × Int × List α) ⊕ (Int × List α))} {K : Nat} (hc0 : 0 ≤ c) (hc : c ≤ 100) (hk0 : 0 ≤ k) (hk : k ≤ 1000000000000) (hlen : l.length ≤ 1048576) (hK : l.length < K)
    (h1 : ∀ (i : Nat) (q : Int) (s : List α) (y : α), 0 ≤ q → q ≤ 2000000000000 → i < l.length → s[i]? = some y → body (q, (i : Int), s) = some (.inl (q + c, ((i + 1 : Nat) : Int), s.set i (mk q))))
    (h2 : ∀ (q : Int) (s : List α), body (q, (l.length : Int), s) = some (.inr (q, s))) : loopM body K (k, 0, l) = some (k + c * (l.length : Int), mks mk c k l.length) := by
  have gen : ∀ (d i K : Nat) (s : List α), i + d = l.length → s.length = l.length → (∀ j, j < i → s[j]? = some (mk (k + c * (j : Int)))) → d < K → loopM body K (k + c * (i : Int), (i : Int), s) = some (k + c * (l.length : Int), mks mk c k l.length) := by
    intro d
    induction d with
    | zero =>
      intro i K s hi hs hv hK
      have hil : i = l.length := by omega
      subst hil
      obtain ⟨K, rfl⟩ : ∃ q, K = q + 1 := ⟨K - 1, by omega⟩
      rw [loopM_succ, h2]
      simp only [bind_some]
      congr 2
      apply List.ext_getElem?
      intro j
      rcases Nat.lt_or_ge j l.length with h | h
      · rw [hv j h, mks_get mk c k h]
      · rw [List.getElem?_eq_none (by omega), List.getElem?_eq_none (by rw [mks_len]; omega)]
    | succ d ih =>
      intro i K s hi hs hv hK
      obtain ⟨K, rfl⟩ : ∃ q, K = q + 1 := ⟨K - 1, by omega⟩
      obtain ⟨m1, m2⟩ := mul_le_big hc0 hc (show i ≤ l.length by omega) hlen
      obtain ⟨y, hy⟩ : ∃ y, s[i]? = some y := ⟨_, List.getElem?_eq_getElem (by omega)⟩
      rw [loopM_succ, h1 i _ s y (by omega) (by omega) (by omega) hy, bind_some]
      have e : k + c * (i : Int) + c = k + c * ((i + 1 : Nat) : Int) := by
        rw [Int.natCast_add, Int.mul_add]
        simp
        omega
      simp only [e]
      refine ih (i + 1) K _ (by omega) (by rw [List.length_set]; exact hs) (fun j hj => ?_) (by omega)
      by_cases hji : i = j
      · subst hji
        rw [List.getElem?_set_self (by omega)]
      · rw [List.getElem?_set_ne hji]
        exact hv j (by omega)
  have := gen l.length 0 K l (by omega) rfl (fun j hj => by omega) hK
  simpa using this
theorem held_gen {α ρ : Type} (mk : Int → α) {c k : Int} {n : Nat} {body : Int × Int → Option ((Int × Int) ⊕ (ρ ⊕ Int))} {K : Nat} (hc0 : 0 ≤ c) (hc : c ≤ 100) (hk0 : 0 ≤ k) (hk : k ≤ 1000000000000) (hlen : n ≤ 1048576) (hK : n < K)
    (h1 : ∀ (i : Nat) (q : Int), 0 ≤ q → q ≤ 2000000000000 → i < n → (mks mk c k n)[i]? = some (mk q) → body (q, (i : Int)) = some (.inl (q + c, ((i + 1 : Nat) : Int))))
    (h2 : ∀ (q : Int), body (q, (n : Int)) = some (.inr (.inr q))) : loopM body K (k, 0) = some (.inr (k + c * (n : Int))) := by
  have gen : ∀ (d i K : Nat), i + d = n → d < K → loopM body K (k + c * (i : Int), (i : Int)) = some (.inr (k + c * (n : Int))) := by
    intro d
    induction d with
    | zero =>
      intro i K hi hK
      have hil : i = n := by omega
      subst hil
      obtain ⟨K, rfl⟩ : ∃ q, K = q + 1 := ⟨K - 1, by omega⟩
      rw [loopM_succ, h2]
      rfl
    | succ d ih =>
      intro i K hi hK
      obtain ⟨K, rfl⟩ : ∃ q, K = q + 1 := ⟨K - 1, by omega⟩
      obtain ⟨m1, m2⟩ := mul_le_big hc0 hc (show i ≤ n by omega) hlen
      rw [loopM_succ, h1 i _ (by omega) (by omega) (by omega) (mks_get mk c k (by omega)), bind_some]
      have e : k + c * (i : Int) + c = k + c * ((i + 1 : Nat) : Int) := by
        rw [Int.natCast_add, Int.mul_add]
        simp
        omega
      simp only [e]
      exact ih (i + 1) K (by omega) (by omega)
  have := gen n 0 K (by omega) hK
  simpa using this
theorem markIntS_eq {l : List Int} {k : Int} (hk0 : 0 ≤ k) (hk : k ≤ 1000000000000) (hlen : l.length ≤ 1048576) : X.l_markIntS 3000000 l k = some (k + 1 * (l.length : Int), mks (fun q => q) 1 k l.length) := by
  unfold X.l_markIntS
  rw [mark_gen (fun q => q) (c := 1) l (by omega) (by omega) hk0 hk hlen (by omega) ?_ ?_]
  · rfl
  · intro i q s y h0 h1 hi hy
    have hd : decide ((i : Int) < (l.length : Int)) = true := by simp; omega
    simp only [hd, cond_true, getI_of hy, bind_some, wr_suc (show i ≤ 4611686018427387904 by omega), Int.toNat_natCast]
    rw [wr_of (by omega) (by omega)]
  · intro q s
    simp only [dec_end, cond_false]
theorem heldIntS_eq {n : Nat} {k : Int} (hk0 : 0 ≤ k) (hk : k ≤ 1000000000000) (hlen : n ≤ 1048576) : X.l_heldIntS 3000000 (mks (fun q => q) 1 k n) k = some (k + 1 * (n : Int)) := by
  unfold X.l_heldIntS
  rw [held_gen (fun q => q) (c := 1) (n := n) (by omega) (by omega) hk0 hk hlen (by omega) ?_ ?_]
  · rfl
  · intro i q h0 h1 hi hy
    have hd : decide ((i : Int) < ((mks (fun q => q) 1 k n).length : Int)) = true := by rw [mks_len]; simp; omega
    have hq : (q != q) = false := by simp
    simp only [hd, cond_true, getI_of hy, bind_some, wr_suc (show i ≤ 4611686018427387904 by omega), hq, cond_false]
    rw [wr_of (by omega) (by omega)]
  · intro q
    have hd : decide ((n : Int) < ((mks (fun q => q) 1 k n).length : Int)) = false := by rw [mks_len]; simp
    simp only [hd, cond_false]
theorem eqIntS_eq {l m : List Int} (h : l.length ≤ 1048576) : X.l_eqIntS 3000000 l m = some (decide (l = m)) := by
  unfold X.l_eqIntS
  by_cases hl : l.length = m.length
  · have e : ((l.length : Int) != (m.length : Int)) = false := by simp [hl]
    rw [e, cond_false]
    refine same_gen l m hl (by omega) ?_ ?_
    · intro i x y hx hy
      have hw := wr_suc (n := i) (by have := lt_get hx; omega)
      simp only [dec_lt hx, cond_true, getI_of hx, getI_of hy, bind_some, hw, bne, beq_dec]
      by_cases hxy : x = y <;> simp [hxy]
    · simp only [dec_end, cond_false]
  · have e : ((l.length : Int) != (m.length : Int)) = true := by simp; omega
    rw [e, cond_true]
    have : l ≠ m := fun e => hl (by rw [e])
    simp [this]
/-! ### PartsApart -/
def vApart (a b : Sign) : List Int × Bool := if gSign a && gSign b then (apart (nS a) (nS b), true) else ([], false)
theorem vApart_len (a b : Sign) : (vApart a b).1.length ≤ 5 := by
  unfold vApart
  split
  · exact ixs_len _ _ _
  · simp
end Go.Proofs.XC
