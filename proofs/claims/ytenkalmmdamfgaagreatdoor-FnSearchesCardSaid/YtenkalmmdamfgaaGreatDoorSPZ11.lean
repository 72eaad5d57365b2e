/- Plain laws of the plain functions: no program, no memory. By AI agents; no person has read it. -/
import Derived.Test.YtenkalmmdamfgaaGreatDoorSPZ10
set_option linter.unusedVariables false
set_option linter.unusedSimpArgs false
set_option maxRecDepth 100000
set_option maxHeartbeats 40000000
namespace Go.Proofs.XC
open Go Go.RowKit
/-! ### The reference's rows -/
def sG (E : Nat → Bool) (i j : Nat) : Bool := (List.range i).any fun q => E q && decide (q ≤ j)
theorem sG_succ (E : Nat → Bool) (i j : Nat) : sG E (i + 1) j = (sG E i j || (E i && decide (i ≤ j))) := by
  unfold sG
  rw [List.range_succ, List.any_append]
  simp
theorem sG_end (E : Nat → Bool) {n j : Nat} (h : j ≤ n) : sG E (n + 1) j = exB E j := by
  rw [Bool.eq_iff_iff, exB_iff]
  unfold sG
  rw [List.any_eq_true]
  constructor
  · rintro ⟨q, _, h2⟩
    simp only [Bool.and_eq_true, decide_eq_true_eq] at h2
    exact ⟨q, h2.2, h2.1⟩
  · rintro ⟨q, h1, h2⟩
    exact ⟨q, List.mem_range.2 (by omega), by simp [h1, h2]⟩
def nG (c : UInt8) (s : Str) (E : Nat → Bool) (i : Nat) : Nat → Bool
  | 0 => false
  | j + 1 => decide (j < i) && (E j && hitS c s j)
theorem starLoop {n : Nat} (hn : n ≤ 1000) {z : Int} (hz : z = (n : Int)) {body : Int × List Bool → Option ((Int × List Bool) ⊕ List Bool)}
    (hb : ∀ (i : Nat) l, body ((i : Int), l) = bif decide ((i : Int) ≤ z) then (Option.bind (getI l (i : Int)) fun _ => some (.inl ((wr ((i : Int) + 1)), (List.set l (Int.toNat (i : Int)) true)))) else some (.inr l)) :
    ∀ (d i K : Nat) (F : Nat → Bool), i + d = n + 1 → d < K → loopM body K ((i : Int), rB n F) = some (rB n fun j => F j || decide (i ≤ j))
  | 0, i, K, F, hi, hK => by
    obtain ⟨K, rfl⟩ : ∃ q, K = q + 1 := ⟨K - 1, by omega⟩
    have e : decide ((i : Int) ≤ z) = false := by simp; omega
    rw [loopM_succ, hb, e]
    show some (rB n F) = _
    congr 1
    refine rB_congr fun j hj => ?_
    have : ¬ i ≤ j := by omega
    simp [this]
  | d + 1, i, K, F, hi, hK => by
    obtain ⟨K, rfl⟩ : ∃ q, K = q + 1 := ⟨K - 1, by omega⟩
    have e : decide ((i : Int) ≤ z) = true := by simp; omega
    rw [loopM_succ, hb, e, cond_true, getI_rB _ (by omega), bind_some, bind_some, wr_suc (by omega), Int.toNat_natCast, rB_set _ _ (by omega)]
    show loopM body K (((i + 1 : Nat) : Int), _) = _
    rw [starLoop hn hz hb d (i + 1) K _ (by omega) (by omega)]
    congr 1
    refine rB_congr fun j hj => ?_
    by_cases h1 : j = i
    · subst h1; simp
    · by_cases h2 : i ≤ j
      · have : i + 1 ≤ j := by omega
        simp [h1, h2, this]
      · have : ¬ i + 1 ≤ j := by omega
        simp [h1, h2, this]
theorem loopRep {α σ τ ρ ρ' : Type} {body : Int × τ → Option ((Int × τ) ⊕ ρ')} {K : Nat} {t0 : τ} (l : List α) (rep : σ → τ) (g : Nat → α → σ → σ ⊕ ρ) (f : σ → ρ) (out : ρ → ρ') (s0 : σ) (ht : t0 = rep s0) (hK : l.length < K)
    (h1 : ∀ (i : Nat) x s, l[i]? = some x → body ((i : Int), rep s) = some (match g i x s with | .inl s' => .inl (((i + 1 : Nat) : Int), rep s') | .inr r => .inr (out r))) (h2 : ∀ s, body ((l.length : Int), rep s) = some (.inr (out (f s)))) : loopM body K (0, t0) = some (out (foldS g f l 0 s0)) := by
  subst ht
  have key : ∀ (r : List α) (i K : Nat) (s : σ), l.drop i = r → i ≤ l.length → r.length < K → loopM body K ((i : Int), rep s) = some (out (foldS g f r i s)) := by
    intro r
    induction r with
    | nil =>
      intro i K s hd hi hK
      have : l.length ≤ i := List.drop_eq_nil_iff.1 hd
      have hil : i = l.length := by omega
      subst hil
      obtain ⟨K, rfl⟩ : ∃ q, K = q + 1 := ⟨K - 1, by simp at hK; omega⟩
      rw [loopM_succ, h2]
      rfl
    | cons x r ih =>
      intro i K s hd hi hK
      have hlt : i < l.length := by
        rcases Nat.lt_or_ge i l.length with h | h
        · exact h
        · rw [List.drop_eq_nil_of_le h] at hd; cases hd
      have hx : l[i]? = some x := by
        have := congrArg (fun l => l[0]?) hd
        simpa using this
      have hd' : l.drop (i + 1) = r := by rw [← List.drop_drop (i := 1) (j := i), hd]; rfl
      obtain ⟨K, rfl⟩ : ∃ q, K = q + 1 := ⟨K - 1, by omega⟩
      rw [loopM_succ, h1 i x s hx, bind_some, foldS]
      cases hg : g i x s with
      | inl s' => exact ih (i + 1) K s' hd' (by omega) (by simp at hK; omega)
      | inr q => rfl
  exact key l 0 K s0 rfl (Nat.zero_le _) hK
theorem s_steps_eq2 {k : Nat} {p s : Str} (hp : p.length ≤ 50) (hs : s.length ≤ 50) (hk : 100 ≤ k) : X.s_seSteps k p s = some (fitV p s) := by
  unfold X.s_seSteps
  have g0 : getI (rB s.length fun _ => false) 0 = some false := getI_rB (i := 0) _ (by omega)
  have hmk : mkI eB false (wr ((s.length : Int) + 1)) = some (rB s.length fun _ => false) := by
    rw [wr_suc (by omega), show (((s.length + 1 : Nat)) : Int) = (s.length : Int) + 1 by omega, mk_false (by omega)]
  rw [hmk, bind_some, g0, bind_some]
  rw [loopRep (ρ := Nat → Bool) p (rB s.length) (gStep s) (fun E => E) (rB s.length) (fun j => decide (j = 0)) ?_ (by omega) ?_ (fun E => by simp only [dec_end, cond_false])]
  · rw [foldS_step, bind_some, getI_rB _ (Nat.le_refl _)]
    rfl
  · show (rB s.length fun _ => false).set 0 true = _
    rw [rB_set _ _ (by omega)]
    refine rB_congr fun j _ => ?_
    by_cases h : j = 0 <;> simp [h]
  · intro i c E hc
    have hi := lt_get hc
    simp only [dec_lt hc, cond_true, bind_some, getB_of hc, wr_suc (show i ≤ 4611686018427387904 by omega)]
    have c42 : ((c.toNat : Int) == 42) = decide (c = 42) := byte_eq c 42 (by omega)
    have c63 : ((c.toNat : Int) == 63) = decide (c = 63) := byte_eq c 63 (by omega)
    by_cases h42 : c = 42
    · rw [walkB (ρ := Unit) E (sG E) (rB_congr fun j _ => by simp [sG]) ?_]
      · rw [bind_some]
        show some (Sum.inl (_, rB s.length (sG E (s.length + 1)))) = some (Sum.inl (_, rB s.length (stepE c s E)))
        congr 3
        refine rB_congr fun j hj => ?_
        rw [sG_end E hj]
        simp [stepE, h42]
      · intro q hq
        cases hE : E q
        · simp only [Bool.not_false, cond_true]
          congr 2
          refine rB_congr fun j hj => ?_
          rw [sG_succ, hE]
          simp
        · have c42' : ((c.toNat : Int) == 42) = true := by rw [c42]; simp [h42]
          simp only [Bool.not_true, cond_false, c42', cond_true]
          rw [starLoop (by omega) rfl (fun i l => rfl) (s.length + 1 - q) q k (sG E q) (by omega) (by omega), bind_some]
          congr 2
          refine rB_congr fun j hj => ?_
          rw [sG_succ, hE]
          simp
    · rw [walkB (ρ := Unit) E (nG c s E) (rB_congr fun j _ => by cases j <;> simp [nG]) ?_]
      · rw [bind_some]
        show some (Sum.inl (_, rB s.length (nG c s E (s.length + 1)))) = some (Sum.inl (_, rB s.length (stepE c s E)))
        congr 3
        refine rB_congr fun j hj => ?_
        cases j with
        | zero => simp [stepE, h42, nG]
        | succ j =>
          have : j < s.length + 1 := by omega
          simp [stepE, h42, nG, this]
      · intro q hq
        have same : (E q && hitS c s q) = false ∨ s.length ≤ q → rB s.length (nG c s E q) = rB s.length (nG c s E (q + 1)) := by
          intro h
          refine rB_congr fun j hj => ?_
          cases j with
          | zero => rfl
          | succ j =>
            simp only [nG]
            by_cases h1 : j < q
            · have : j < q + 1 := by omega
              simp [h1, this]
            · by_cases h2 : j = q
              · subst h2
                rcases h with h | h
                · simp [h]
                · omega
              · have : ¬ j < q + 1 := by omega
                simp [h1, this]
        have diff : (E q && hitS c s q) = true → q < s.length → (rB s.length (nG c s E q)).set (q + 1) true = rB s.length (nG c s E (q + 1)) := by
          intro h h3
          rw [rB_set _ _ (by omega)]
          refine rB_congr fun j hj => ?_
          cases j with
          | zero => simp [nG]
          | succ j =>
            simp only [nG]
            by_cases h2 : j = q
            · subst h2
              simp [h]
            · by_cases h1 : j < q
              · have : j < q + 1 := by omega
                simp [h1, h2, this]
              · have : ¬ j < q + 1 := by omega
                simp [h1, h2, this]
        cases hE : E q
        · simp only [Bool.not_false, cond_true]
          rw [same (.inl (by rw [hE]; rfl))]
        · simp only [Bool.not_true, cond_false, c42, c63, h42, decide_false]
          by_cases hlt : q < s.length
          · obtain ⟨y, hy⟩ := get_some (s := s) (i := q) hlt
            have hd : decide ((q : Int) < (s.length : Int)) = true := by simp; omega
            have hh := hitS_cases c s hy
            simp only [hd, cond_true, getB_of hy, bind_some, bytes_eq, wr_suc (show q ≤ 4611686018427387904 by omega), getI_rB _ (show q + 1 ≤ s.length by omega), Int.toNat_natCast]
            by_cases h63 : c = 63
            · simp only [h63, decide_true, cond_true]
              rw [← h63, diff (by rw [hE, hh, h63]; rfl) hlt]
            · by_cases hcy : c = y
              · simp only [h63, hcy, decide_true, decide_false, cond_true, cond_false]
                have h63' : ¬ y = 63 := by rw [← hcy]; exact h63
                simp only [h63', decide_false, cond_false]
                rw [← hcy, diff (by rw [hE, hh, hcy]; simp) hlt]
              · simp only [h63, hcy, decide_false, cond_false]
                rw [same (.inl (by rw [hE, hh]; simp [h63, hcy]))]
          · have hd : decide ((q : Int) < (s.length : Int)) = false := by simp; omega
            simp only [hd, cond_false]
            rw [same (.inr (by omega))]
end Go.Proofs.XC
