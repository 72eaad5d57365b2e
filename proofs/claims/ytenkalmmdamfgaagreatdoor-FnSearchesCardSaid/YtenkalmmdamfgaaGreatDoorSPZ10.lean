/- Plain laws of the plain functions: no program, no memory. By AI agents; no person has read it. -/
import Derived.Test.YtenkalmmdamfgaaGreatDoorSPZ9
set_option linter.unusedVariables false
set_option linter.unusedSimpArgs false
set_option maxRecDepth 100000
set_option maxHeartbeats 40000000
namespace Go.Proofs.XC
open Go Go.RowKit
/-! ### Do the steps fit? -/
theorem mk_false {n : Nat} (h : n ≤ 1000) : mkI eB false ((n : Int) + 1) = some (rB n fun _ => false) := by
  unfold mkI
  have hb : eB.by_ = 1 := rfl
  rw [if_pos ⟨by omega, by rw [hb]; omega⟩, ← rB_false]
  congr 2
/-- A walk over the places 0 .. n, with rows as functions. -/
theorem walkB {n : Nat} {ρ : Type} (E : Nat → Bool) (F : Nat → Nat → Bool) {body : Int → Bool → List Bool → Option (List Bool ⊕ List Bool)} {s0 : List Bool} (h0 : s0 = rB n (F 0))
    (h : ∀ (i : Nat), i ≤ n → body (i : Int) (E i) (rB n (F i)) = some (.inl (rB n (F (i + 1))))) : rangeM body (fun l => some l) (rB n E) 0 s0 = some (rB n (F (n + 1))) := by
  subst h0
  have key : ∀ (r : List Bool) (i : Nat), (rB n E).drop i = r → i ≤ n + 1 → rangeM body (fun l => some l) r i (rB n (F i)) = some (rB n (F (n + 1))) := by
    intro r
    induction r with
    | nil =>
      intro i hd hi
      have : (rB n E).length ≤ i := List.drop_eq_nil_iff.1 hd
      rw [rB_len] at this
      have : i = n + 1 := by omega
      subst this
      rfl
    | cons x r ih =>
      intro i hd hi
      have hlt : i < (rB n E).length := by
        rcases Nat.lt_or_ge i (rB n E).length with h | h
        · exact h
        · rw [List.drop_eq_nil_of_le h] at hd; cases hd
      rw [rB_len] at hlt
      have hx : (rB n E)[i]? = some x := by
        have := congrArg (fun l => l[0]?) hd
        simpa using this
      rw [rB_get E (by omega)] at hx
      have hx : E i = x := by simpa using hx
      have hd' : (rB n E).drop (i + 1) = r := by rw [← List.drop_drop (i := 1) (j := i), hd]; rfl
      rw [rangeM_cons, ← hx, h i (by omega), bind_some]
      exact ih (i + 1) hd' (by omega)
  exact key _ 0 rfl (by omega)
theorem hitS_cases (c : UInt8) (s : Str) {j : Nat} {y : UInt8} (hy : s[j]? = some y) : hitS c s j = (decide (c = 63) || decide (c = y)) := by
  unfold hitS
  rw [hy]
  by_cases h : c = y
  · subst h; simp
  · have : ¬ (y = c) := fun e => h e.symm
    simp [h, this]
theorem byte_eq (x : UInt8) (c : Nat) (hc : c < 256) : ((x.toNat : Int) == (c : Int)) = decide (x = UInt8.ofNat c) := by
  have := byte_ne x c hc
  unfold bne at this
  cases h1 : ((x.toNat : Int) == (c : Int)) <;> cases h2 : decide (x = UInt8.ofNat c) <;> simp_all
theorem bytes_eq (x y : UInt8) : ((x.toNat : Int) == (y.toNat : Int)) = decide (x = y) := by
  have := ne_bytes x y
  unfold bne at this
  cases h1 : ((x.toNat : Int) == (y.toNat : Int)) <;> cases h2 : decide (x = y) <;> simp_all
/-- One character of the pattern: the implementation's row. -/
def pF (c : UInt8) (s : Str) (E : Nat → Bool) (i : Nat) (j : Nat) : Bool := decide (j < i) && stepE c s E j
theorem pF_step (c : UInt8) (s : Str) (E : Nat → Bool) (n i : Nat) (b : Bool) (hb : b = stepE c s E i) (hi : i ≤ n) : (rB n (pF c s E i)).set i b = rB n (pF c s E (i + 1)) := by
  rw [rB_set _ _ hi]
  refine rB_congr fun j hj => ?_
  unfold pF
  by_cases h : j = i
  · subst h; simp [hb]
  · by_cases h2 : j < i
    · have : j < i + 1 := by omega
      simp [h, h2, this]
    · have : ¬ j < i + 1 := by omega
      simp [h, h2, this]
theorem wr_pred {i : Nat} (h : i ≤ 1000) : wr (((i + 1 : Nat) : Int) - 1) = (i : Int) := by
  rw [wr_of (by omega) (by omega)]
  omega
/-- Rows told by functions: each character makes a new one. -/
def gStep (s : Str) (_ : Nat) (c : UInt8) (E : Nat → Bool) : (Nat → Bool) ⊕ (Nat → Bool) := .inl (stepE c s E)
theorem foldS_step (s : Str) : ∀ (p : Str) (j : Nat) (E : Nat → Bool), foldS (gStep s) (fun E => E) p j E = p.foldl (fun E c => stepE c s E) E
  | [], j, E => rfl
  | c :: p, j, E => by
    rw [foldS]
    exact foldS_step s p (j + 1) (stepE c s E)
theorem seq_empty (s : Str) : seq s ([] : Str) = decide (s = []) := seq_eq s []
theorem fitV_nil (s : Str) : fitV [] s = decide (s = []) := by
  unfold fitV fitE
  cases s <;> simp
/-- Loops whose state is told by another one. -/
theorem ranRep {α σ τ ρ ρ' : Type} {body : Int → τ → Option (τ ⊕ ρ')} {fin : τ → Option ρ'} {z : Int} {t0 : τ} (l : List α) (rep : σ → τ) (g : Nat → α → σ → σ ⊕ ρ) (f : σ → ρ) (out : ρ → ρ') (s0 : σ) (ht : t0 = rep s0) (hz : z = (l.length : Int)) (hl : l.length ≤ 9223372036854775807)
    (h1 : ∀ (i : Nat) x s, l[i]? = some x → body (i : Int) (rep s) = some (match g i x s with | .inl s' => .inl (rep s') | .inr r => .inr (out r))) (h2 : ∀ s, fin (rep s) = some (out (f s))) : rangeN body fin z t0 = some (out (foldS g f l 0 s0)) := by
  subst ht
  subst hz
  unfold rangeN
  rw [if_pos (by omega)]
  have key : ∀ (r : List α) (i : Nat) (s : σ), l.drop i = r → i ≤ l.length → rangeM (fun j _ s => body j s) fin (List.range' i r.length) i (rep s) = some (out (foldS g f r i s)) := by
    intro r
    induction r with
    | nil => intro i s _ _; simp [rangeM_nil, h2, foldS]
    | cons x r ih =>
      intro i s hd hi
      have hlt : i < l.length := by
        rcases Nat.lt_or_ge i l.length with h | h
        · exact h
        · rw [List.drop_eq_nil_of_le h] at hd; cases hd
      have hx : l[i]? = some x := by
        have := congrArg (fun l => l[0]?) hd
        simpa using this
      have hd' : l.drop (i + 1) = r := by rw [← List.drop_drop (i := 1) (j := i), hd]; rfl
      rw [List.length_cons, List.range'_succ, rangeM_cons, h1 i x s hx, bind_some, foldS]
      cases hg : g i x s with
      | inl s' => exact ih (i + 1) s' hd' (by omega)
      | inr q => rfl
  have := key l 0 s0 rfl (Nat.zero_le _)
  rw [← List.range_eq_range'] at this
  simpa using this
theorem i_fits_eq {p s : Str} (hp : p.length ≤ 50) (hs : s.length ≤ 50) : X.i_fits p s = some (fitV p s) := by
  unfold X.i_fits
  by_cases h0 : p = []
  · subst h0
    rw [fitV_nil, seq_empty, seq_empty]
    rfl
  have e0 : seq p ([] : Str) = false := by rw [seq_empty]; simp [h0]
  have g0 : getI (rB s.length fun _ => false) 0 = some false := getI_rB (i := 0) _ (by omega)
  rw [e0, cond_false, wr_suc (by omega), show (((s.length + 1 : Nat)) : Int) = (s.length : Int) + 1 by omega, mk_false (by omega), bind_some, g0, bind_some]
  rw [ranRep (ρ := Nat → Bool) p (rB s.length) (gStep s) (fun E => E) (rB s.length) (fun j => decide (j = 0)) ?_ rfl (by omega) ?_ (fun _ => rfl)]
  · rw [foldS_step, bind_some, getI_rB _ (Nat.le_refl _)]
    rfl
  · show (rB s.length fun _ => false).set 0 true = _
    rw [rB_set _ _ (by omega)]
    refine rB_congr fun j _ => ?_
    by_cases h : j = 0 <;> simp [h]
  · intro i c E hc
    have hmk : mkI eB false ((rB s.length E).length : Int) = some (rB s.length fun _ => false) := by
      rw [rB_len, show (((s.length + 1 : Nat)) : Int) = (s.length : Int) + 1 by omega, mk_false (by omega)]
    simp only [hmk, bind_some, getB_of hc]
    have c42 : ((c.toNat : Int) == 42) = decide (c = 42) := byte_eq c 42 (by omega)
    have c63 : ((c.toNat : Int) == 63) = decide (c = 63) := byte_eq c 63 (by omega)
    rw [walkB (ρ := Unit) E (pF c s E) (rB_congr fun j _ => by simp [pF]) ?_]
    · rw [bind_some]
      show some (Sum.inl (rB s.length (pF c s E (s.length + 1)))) = some (Sum.inl (rB s.length (stepE c s E)))
      congr 2
      refine rB_congr fun j hj => ?_
      have : j < s.length + 1 := by omega
      simp [pF, this]
    · intro q hq
      simp only [c42, c63, getI_rB _ hq, bind_some, Int.toNat_natCast]
      by_cases h42 : c = 42
      · have hst : ∀ j, stepE c s E j = exB E j := fun j => by simp [stepE, h42]
        simp only [h42, decide_true, cond_true]
        rw [← h42]
        cases q with
        | zero =>
          cases hE : E 0
          · have hd : decide (((0 : Nat) : Int) > 0) = false := rfl
            simp only [hd, cond_false, cond_true]
            rw [← pF_step c s E s.length 0 false (by rw [hst]; exact hE.symm) (by omega)]
          · simp only [cond_true]
            rw [← pF_step c s E s.length 0 true (by rw [hst]; exact hE.symm) (by omega)]
        | succ q =>
          cases hE : E (q + 1)
          · have hd : decide (((q + 1 : Nat) : Int) > 0) = true := by simp
            simp only [hd, cond_true, cond_false, wr_pred (show q ≤ 1000 by omega), getI_rB _ (show q ≤ s.length by omega), bind_some]
            have e1 : pF c s E (q + 1) q = exB E q := by simp [pF, hst]
            rw [e1, ← pF_step c s E s.length (q + 1) (exB E q) (by rw [hst, exB, hE, Bool.or_false]) (by omega)]
          · simp only [cond_true]
            rw [← pF_step c s E s.length (q + 1) true (by rw [hst, exB, hE, Bool.or_true]) (by omega)]
      · simp only [h42, decide_false, cond_false]
        cases q with
        | zero =>
          have hd : decide (((0 : Nat) : Int) > 0) = false := rfl
          simp only [hd, cond_false]
          rw [← pF_step c s E s.length 0 false (by simp [stepE, h42]) (by omega)]
        | succ q =>
          have hd : decide (((q + 1 : Nat) : Int) > 0) = true := by simp
          obtain ⟨y, hy⟩ := get_some (s := s) (i := q) (by omega)
          simp only [hd, cond_true, wr_pred (show q ≤ 1000 by omega), getI_rB _ (show q ≤ s.length by omega), bind_some, getB_of hy, bytes_eq]
          have hst : stepE c s E (q + 1) = (E q && (decide (c = 63) || decide (c = y))) := by
            simp only [stepE, h42, if_false, hitS_cases c s hy]
          cases hE : E q
          · simp only [cond_false]
            rw [← pF_step c s E s.length (q + 1) false (by rw [hst, hE]; rfl) (by omega)]
          · by_cases h63 : c = 63
            · simp only [h63, decide_true, cond_true]
              rw [← h63, ← pF_step c s E s.length (q + 1) true (by rw [hst, hE, h63]; simp) (by omega)]
            · simp only [h63, decide_false, cond_true, cond_false]
              rw [← pF_step c s E s.length (q + 1) (decide (c = y)) (by rw [hst, hE]; simp [h63]) (by omega)]
end Go.Proofs.XC
