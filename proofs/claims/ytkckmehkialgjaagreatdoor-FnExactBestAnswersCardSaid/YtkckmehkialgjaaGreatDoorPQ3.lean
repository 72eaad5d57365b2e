/- Plain laws of the plain functions: no program, no memory. By AI agents; no person has read it. -/
import Derived.Test.YtkckmehkialgjaaGreatDoorPQ2
set_option linter.unusedVariables false
set_option linter.unusedSimpArgs false
set_option maxRecDepth 100000
set_option maxHeartbeats 40000000
namespace Go.Proofs.XC
open Go Go.RowKit
/-! ### Answers -/
def ans (p : Pattern) (l : List Sign) : List Int := ixs (fun s => costV p s == 0) l 0
theorem s_answers_eq {k : Nat} {p : Pattern} {l : List Sign} (gp : gPat p = true) (hg : ∀ s ∈ l, gSign s = true) (hl : l.length ≤ 1048576) (hk : 100 ≤ k) : X.s_seWithin k p l 0 = some (ans p l) := by
  obtain ⟨q, rfl⟩ : ∃ q, k = q + 2 := ⟨k - 2, by omega⟩
  unfold X.s_seWithin ans
  have d0 : decide ((0 : Int) ≤ 0) = true := rfl
  have d1 : decide (wr (0 + 1) ≤ 0) = false := rfl
  rw [loopM_succ]
  dsimp only
  rw [d0, cond_true]
  rw [those_gen (fun s => costV p s == 0) (fun _ => rfl) l 0 [] (by simp; omega) (fun i y s hy => ?_)]
  · rw [bind_some, bind_some]
    dsimp only
    rw [loopM_succ]
    dsimp only
    rw [d1]
    rfl
  · rw [(cost_eqs gp (hg y (List.mem_of_getElem? hy)) hk).2.1]
    simp only [bind_some]
    cases (costV p y == 0) <;> simp
theorem ans_len (p : Pattern) (l : List Sign) : (ans p l).length ≤ l.length := ixs_len _ l 0
def vAns (p : Pattern) (l : List Sign) : List Int × Bool := if gPat p && (l.all gSign && decide (l.length ≤ 16)) then (ans p l, true) else ([], false)
theorem vAns_len (p : Pattern) (l : List Sign) : (vAns p l).1.length ≤ l.length := by
  unfold vAns
  split
  · exact ans_len p l
  · simp
/-! ### The weakest pattern -/
def upP (p : Pattern) (n : Nat) : Pattern := if n = 0 then { p with Steps := [42] } else if n = 1 then { p with Hands := 0 } else if n = 2 then { p with Orient := [63, 63] } else if n = 3 then { p with Region := -1 } else { p with Shape := [63, 63, 63, 63, 63] }
theorem gPat_up {p : Pattern} (h : gPat p = true) (n : Nat) : gPat (upP p n) = true := by
  unfold gPat at h
  simp only [Bool.and_eq_true] at h
  obtain ⟨a, b, c, d, e, f, g, i⟩ := h
  unfold upP
  repeat' split
  all_goals unfold gPat; simp only [Bool.and_eq_true]; refine ⟨?_, ?_, ?_, ?_, ?_, ?_, ?_, ?_⟩
  all_goals first | assumption | rfl | decide
def weak (l : List Sign) : Nat → Nat → Pattern → Option (Int × Pattern)
  | 0, _, _ => none
  | f + 1, n, p => if (ans p l).length = 0 then weak l f (n + 1) (upP p n) else some ((n : Int), p)
theorem weak_loop {l : List Sign} {body : Int × Pattern → Option ((Int × Pattern) ⊕ (Int × Pattern))} (hb : ∀ (n : Nat) p, n ≤ 3000000 → gPat p = true → body ((n : Int), p) = some (if (ans p l).length = 0 then .inl (((n + 1 : Nat) : Int), upP p n) else .inr ((n : Int), p))) :
    ∀ (f n : Nat) (p : Pattern), n + f ≤ 3000000 → gPat p = true → loopM body f ((n : Int), p) = weak l f n p
  | 0, n, p, _, _ => rfl
  | f + 1, n, p, hn, hp => by
    rw [loopM_succ, hb n p (by omega) hp, bind_some, weak]
    by_cases h : (ans p l).length = 0
    · simp only [h, if_true]
      exact weak_loop hb f (n + 1) (upP p n) (by omega) (gPat_up hp n)
    · simp only [h, if_false]
def p5 : Pattern := ⟨[63, 63, 63, 63, 63], [63, 63], -1, [42], 0⟩
theorem mis_q5 (s : Str) : mis [63, 63, 63, 63, 63] s = 0 := rfl
theorem mis_q2 (s : Str) : mis [63, 63] s = 0 := rfl
theorem fit_star (s : Str) : fitV [42] s = true := by
  unfold fitV fitE
  show stepE 42 s (fun j => decide (j = 0)) s.length = true
  unfold stepE
  rw [if_pos rfl, exB_iff]
  exact ⟨0, Nat.zero_le _, rfl⟩
theorem cost_p5 (s : Sign) : costV p5 s = 0 := by
  unfold costV p5
  simp only [mis_q5, mis_q2, fit_star, if_true]
  simp
theorem ans_p5 {l : List Sign} (h : l ≠ []) : ¬ (ans p5 l).length = 0 := by
  cases l with
  | nil => exact absurd rfl h
  | cons x l =>
    unfold ans ixs
    rw [cost_p5]
    simp
theorem up5 (p : Pattern) : upP (upP (upP (upP (upP p 0) 1) 2) 3) 4 = p5 := rfl
theorem weak_some {l : List Sign} (h : l ≠ []) (p : Pattern) (f : Nat) : ∃ r, weak l (f + 6) 0 p = some r := by
  have go : ∀ (n f : Nat) (p : Pattern), (∃ r, weak l f (n + 1) (upP p n) = some r) → ∃ r, weak l (f + 1) n p = some r := by
    intro n f p hr
    rw [weak]
    split
    · exact hr
    · exact ⟨_, rfl⟩
  refine go 0 _ _ (go 1 _ _ (go 2 _ _ (go 3 _ _ (go 4 _ _ ?_))))
  rw [up5]
  show ∃ r, weak l (f + 1) 5 p5 = some r
  rw [weak, if_neg (ans_p5 h)]
  exact ⟨_, rfl⟩
def vWeak (k : Nat) (p : Pattern) (l : List Sign) : Option (Pattern × Int × Bool) := if gPat p && (l.all gSign && decide (l.length ≤ 16)) && !(decide (l.length = 0)) && decide ((ans p l).length = 0) then (weak l k 0 p).bind fun r => some (r.2, r.1, true) else some (zPattern, 0, false)
theorem pos_len (l : List Int) : decide ((l.length : Int) > 0) = !(decide (l.length = 0)) := by
  cases l with
  | nil => rfl
  | cons x l => simp
theorem up_cases (p : Pattern) (n : Nat) (h : n ≤ 3000000) : (bif ((n : Int) == 0) then some (Sum.inl ((wr ((n : Int) + 1)), { p with Steps := ([42] : Str) })) else (bif ((n : Int) == 1) then some (.inl ((wr ((n : Int) + 1)), { p with Hands := 0 })) else (bif ((n : Int) == 2) then some (.inl ((wr ((n : Int) + 1)), { p with Orient := ([63, 63] : Str) })) else (bif ((n : Int) == 3) then some (.inl ((wr ((n : Int) + 1)), { p with Region := (-1) })) else some (.inl ((wr ((n : Int) + 1)), { p with Shape := ([63, 63, 63, 63, 63] : Str) })))))) = (some (Sum.inl (((n + 1 : Nat) : Int), upP p n)) : Option ((Int × Pattern) ⊕ (Int × Pattern))) := by
  rw [wr_suc (by omega)]
  unfold upP
  have e : ∀ m : Nat, ((n : Int) == (m : Int)) = decide (n = m) := fun m => by rw [beq_dec, Bool.eq_iff_iff]; simp; omega
  have e0 := e 0
  have e1 := e 1
  have e2 := e 2
  have e3 := e 3
  simp only [Int.cast_ofNat_Int] at e0 e1 e2 e3
  rw [e0, e1, e2, e3]
  by_cases h0 : n = 0
  · subst h0; rfl
  by_cases h1 : n = 1
  · subst h1; rfl
  by_cases h2 : n = 2
  · subst h2; rfl
  by_cases h3 : n = 3
  · subst h3; rfl
  simp [h0, h1, h2, h3]
theorem vWeak_some (p : Pattern) (l : List Sign) : ∃ v, vWeak 3000000 p l = some v := by
  unfold vWeak
  split
  · rename_i h
    simp only [Bool.and_eq_true, Bool.not_eq_true', decide_eq_false_iff_not] at h
    have hl : l ≠ [] := fun e => h.1.2 (by rw [e]; rfl)
    obtain ⟨r, hr⟩ := weak_some hl p 2999994
    rw [show 2999994 + 6 = 3000000 from rfl] at hr
    rw [hr]
    exact ⟨_, rfl⟩
  · exact ⟨_, rfl⟩
end Go.Proofs.XC
