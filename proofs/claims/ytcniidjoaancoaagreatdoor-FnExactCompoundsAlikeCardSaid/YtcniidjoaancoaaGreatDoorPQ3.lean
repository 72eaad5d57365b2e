/- Plain laws of the plain functions: no program, no memory. By AI agents; no person has read it. -/
import Derived.Test.YtcniidjoaancoaaGreatDoorPQ2
set_option linter.unusedVariables false
set_option linter.unusedSimpArgs false
set_option maxRecDepth 100000
set_option maxHeartbeats 40000000
namespace Go.Proofs.XC
open Go Go.RowKit
/-! ### Answers -/
def ans (p : Pattern) (l : List Sign) : List Int := ixs (fun s => costV p s == 0) l 0
theorem i_answers_eq {k : Nat} {p : Pattern} {l : List Sign} (gp : gPat p = true) (hg : ∀ s ∈ l, gSign s = true) (hl : l.length ≤ 1048576) (hk : 100 ≤ k) : X.i_Pattern_answers k p l = some (ans p l) := by
  unfold X.i_Pattern_answers X.i_those_i_Sign ans
  rw [those_gen (fun s => costV p s == 0) (fun _ => rfl) l 0 [] (by simp; omega) (fun i y q hy => ?_)]
  · rfl
  · unfold X.i_Pattern_answers_1
    rw [(cost_eqs gp (hg y (List.mem_of_getElem? hy)) hk).1]
    simp only [bind_some]
    cases (costV p y == 0) <;> simp
theorem s_answers_eq {k : Nat} {p : Pattern} {l : List Sign} (gp : gPat p = true) (hg : ∀ s ∈ l, gSign s = true) (hl : l.length ≤ 1048576) (hk : 100 ≤ k) : X.s_seWithin k p l 0 = some (ans p l) := by
  obtain ⟨q, rfl⟩ : ∃ q, k = q + 2 := ⟨k - 2, by omega⟩
  unfold X.s_seWithin ans
  have d0 : decide ((0 : Int) ≤ 0) = true := rfl
  have d1 : decide (wr (0 + 1) ≤ 0) = false := rfl
  rw [loopM_succ]
  dsimp only
  rw [d0, cond_true]
  rw [those_gen (fun s => costV p s == 0) (fun _ => rfl) l 0 [] (by simp; omega) (fun i y s hy => ?_)]
  · rw [bind_some, bind_some]
    dsimp only
    rw [loopM_succ]
    dsimp only
    rw [d1]
    rfl
  · rw [(cost_eqs gp (hg y (List.mem_of_getElem? hy)) hk).2.1]
    simp only [bind_some]
    cases (costV p y == 0) <;> simp
theorem ans_len (p : Pattern) (l : List Sign) : (ans p l).length ≤ l.length := ixs_len _ l 0
def vAns (p : Pattern) (l : List Sign) : List Int × Bool := if gPat p && (l.all gSign && decide (l.length ≤ 16)) then (ans p l, true) else ([], false)
theorem i_AnswersFor_eq {k : Nat} {p : Pattern} {l : List Sign} (hp : smallP p) (hs : ∀ s ∈ l, smallS s) (hl : l.length ≤ 1048576) (hk : 100 ≤ k) : X.i_AnswersFor k p l = some (vAns p l) := by
  unfold X.i_AnswersFor vAns
  rw [i_IsPattern_eq hp, i_areSigns_eq hs (by omega), show ((16 : Int)) = ((16 : Nat) : Int) from rfl, len16]
  cases h0 : gPat p <;> cases h1 : l.all gSign <;> cases h2 : decide (l.length ≤ 16) <;> simp only [Bool.true_and, Bool.false_and, Bool.and_true, Bool.and_false, Bool.and_self, Bool.not_true, Bool.not_false, cond_true, cond_false, bind_some, if_true, Bool.false_eq_true, if_false]
  rw [i_answers_eq h0 (by simpa using h1) hl hk]
  rfl
theorem s_AnswersFor_eq {k : Nat} {p : Pattern} {l : List Sign} (hp : smallP p) (hs : ∀ s ∈ l, smallS s) (hl : l.length ≤ 1048576) (hk : 2000010 ≤ k) : X.s_AnswersFor k p l = some (vAns p l) := by
  unfold X.s_AnswersFor X.s_seAsked vAns
  rw [s_seGood_eq hp hk, s_noList_eq hs hk]
  cases h0 : gPat p <;> cases h1 : l.all gSign <;> cases h2 : decide (l.length ≤ 16) <;> simp only [Bool.true_and, Bool.false_and, Bool.and_true, Bool.and_false, Bool.and_self, Bool.not_true, Bool.not_false, cond_true, cond_false, bind_some, if_true, Bool.false_eq_true, if_false]
  rw [s_answers_eq h0 (by simpa using h1) hl (by omega)]
  rfl
theorem vAns_len (p : Pattern) (l : List Sign) : (vAns p l).1.length ≤ l.length := by
  unfold vAns
  split
  · exact ans_len p l
  · simp
/-! ### The weakest pattern -/
def upP (p : Pattern) (n : Nat) : Pattern := if n = 0 then { p with Steps := [42] } else if n = 1 then { p with Hands := 0 } else if n = 2 then { p with Orient := [63, 63] } else if n = 3 then { p with Region := -1 } else { p with Shape := [63, 63, 63, 63, 63] }
theorem gPat_up {p : Pattern} (h : gPat p = true) (n : Nat) : gPat (upP p n) = true := by
  unfold gPat at h
  simp only [Bool.and_eq_true] at h
  obtain ⟨a, b, c, d, e, f, g, i⟩ := h
  unfold upP
  repeat' split
  all_goals unfold gPat; simp only [Bool.and_eq_true]; refine ⟨?_, ?_, ?_, ?_, ?_, ?_, ?_, ?_⟩
  all_goals first | assumption | rfl | decide
def weak (l : List Sign) : Nat → Nat → Pattern → Option (Int × Pattern)
  | 0, _, _ => none
  | f + 1, n, p => if (ans p l).length = 0 then weak l f (n + 1) (upP p n) else some ((n : Int), p)
theorem weak_loop {l : List Sign} {body : Int × Pattern → Option ((Int × Pattern) ⊕ (Int × Pattern))} (hb : ∀ (n : Nat) p, n ≤ 3000000 → gPat p = true → body ((n : Int), p) = some (if (ans p l).length = 0 then .inl (((n + 1 : Nat) : Int), upP p n) else .inr ((n : Int), p))) :
    ∀ (f n : Nat) (p : Pattern), n + f ≤ 3000000 → gPat p = true → loopM body f ((n : Int), p) = weak l f n p
  | 0, n, p, _, _ => rfl
  | f + 1, n, p, hn, hp => by
    rw [loopM_succ, hb n p (by omega) hp, bind_some, weak]
    by_cases h : (ans p l).length = 0
    · simp only [h, if_true]
      exact weak_loop hb f (n + 1) (upP p n) (by omega) (gPat_up hp n)
    · simp only [h, if_false]
def p5 : Pattern := ⟨[63, 63, 63, 63, 63], [63, 63], -1, [42], 0⟩
theorem mis_q5 (s : Str) : mis [63, 63, 63, 63, 63] s = 0 := rfl
theorem mis_q2 (s : Str) : mis [63, 63] s = 0 := rfl
theorem fit_star (s : Str) : fitV [42] s = true := by
  unfold fitV fitE
  show stepE 42 s (fun j => decide (j = 0)) s.length = true
  unfold stepE
  rw [if_pos rfl, exB_iff]
  exact ⟨0, Nat.zero_le _, rfl⟩
theorem cost_p5 (s : Sign) : costV p5 s = 0 := by
  unfold costV p5
  simp only [mis_q5, mis_q2, fit_star, if_true]
  simp
theorem ans_p5 {l : List Sign} (h : l ≠ []) : ¬ (ans p5 l).length = 0 := by
  cases l with
  | nil => exact absurd rfl h
  | cons x l =>
    unfold ans ixs
    rw [cost_p5]
    simp
theorem up5 (p : Pattern) : upP (upP (upP (upP (upP p 0) 1) 2) 3) 4 = p5 := rfl
theorem weak_some {l : List Sign} (h : l ≠ []) (p : Pattern) (f : Nat) : ∃ r, weak l (f + 6) 0 p = some r := by
  have go : ∀ (n f : Nat) (p : Pattern), (∃ r, weak l f (n + 1) (upP p n) = some r) → ∃ r, weak l (f + 1) n p = some r := by
    intro n f p hr
    rw [weak]
    split
    · exact hr
    · exact ⟨_, rfl⟩
  refine go 0 _ _ (go 1 _ _ (go 2 _ _ (go 3 _ _ (go 4 _ _ ?_))))
  rw [up5]
  show ∃ r, weak l (f + 1) 5 p5 = some r
  rw [weak, if_neg (ans_p5 h)]
  exact ⟨_, rfl⟩
def vWeak (k : Nat) (p : Pattern) (l : List Sign) : Option (Pattern × Int × Bool) := if gPat p && (l.all gSign && decide (l.length ≤ 16)) && !(decide (l.length = 0)) && decide ((ans p l).length = 0) then (weak l k 0 p).bind fun r => some (r.2, r.1, true) else some (zPattern, 0, false)
theorem pos_len (l : List Int) : decide ((l.length : Int) > 0) = !(decide (l.length = 0)) := by
  cases l with
  | nil => rfl
  | cons x l => simp
theorem up_cases (p : Pattern) (n : Nat) (h : n ≤ 3000000) : (bif ((n : Int) == 0) then some (Sum.inl ((wr ((n : Int) + 1)), { p with Steps := ([42] : Str) })) else (bif ((n : Int) == 1) then some (.inl ((wr ((n : Int) + 1)), { p with Hands := 0 })) else (bif ((n : Int) == 2) then some (.inl ((wr ((n : Int) + 1)), { p with Orient := ([63, 63] : Str) })) else (bif ((n : Int) == 3) then some (.inl ((wr ((n : Int) + 1)), { p with Region := (-1) })) else some (.inl ((wr ((n : Int) + 1)), { p with Shape := ([63, 63, 63, 63, 63] : Str) })))))) = (some (Sum.inl (((n + 1 : Nat) : Int), upP p n)) : Option ((Int × Pattern) ⊕ (Int × Pattern))) := by
  rw [wr_suc (by omega)]
  unfold upP
  have e : ∀ m : Nat, ((n : Int) == (m : Int)) = decide (n = m) := fun m => by rw [beq_dec, Bool.eq_iff_iff]; simp; omega
  have e0 := e 0
  have e1 := e 1
  have e2 := e 2
  have e3 := e 3
  simp only [Int.cast_ofNat_Int] at e0 e1 e2 e3
  rw [e0, e1, e2, e3]
  by_cases h0 : n = 0
  · subst h0; rfl
  by_cases h1 : n = 1
  · subst h1; rfl
  by_cases h2 : n = 2
  · subst h2; rfl
  by_cases h3 : n = 3
  · subst h3; rfl
  simp [h0, h1, h2, h3]
theorem i_Weak_eq {k : Nat} {p : Pattern} {l : List Sign} (hp : smallP p) (hs : ∀ s ∈ l, smallS s) (hl : l.length ≤ 1048576) (hk : 100 ≤ k) (hk2 : k ≤ 3000000) : X.i_WeakestFor k p l = vWeak k p l := by
  unfold X.i_WeakestFor vWeak
  rw [i_IsPattern_eq hp, i_areSigns_eq hs (by omega), len0, show ((16 : Int)) = ((16 : Nat) : Int) from rfl, len16]
  cases h0 : gPat p <;> cases h1 : l.all gSign <;> cases h2 : decide (l.length ≤ 16) <;> cases h3 : decide (l.length = 0) <;> simp only [Bool.true_and, Bool.false_and, Bool.and_true, Bool.and_false, Bool.and_self, Bool.not_true, Bool.not_false, cond_true, cond_false, bind_some, if_true, Bool.false_eq_true, if_false]
  have hg : ∀ s ∈ l, gSign s = true := by simpa using h1
  rw [i_answers_eq h0 hg hl hk, bind_some, pos_len]
  cases h4 : decide ((ans p l).length = 0) <;> simp only [Bool.true_and, Bool.false_and, Bool.and_true, Bool.and_false, Bool.and_self, Bool.not_true, Bool.not_false, cond_true, cond_false, bind_some, if_true, Bool.false_eq_true, if_false]
  rw [show ((0 : Int), p) = (((0 : Nat) : Int), p) from rfl, weak_loop (l := l) (fun n q hn gq => ?_) k 0 p (by omega) h0]
  · dsimp only
    rw [i_answers_eq gq hg hl hk, bind_some, len0]
    by_cases h : (ans q l).length = 0
    · simp only [h, decide_true, cond_true, if_true]
      exact up_cases q n hn
    · simp [h]
theorem s_Weak_eq {k : Nat} {p : Pattern} {l : List Sign} (hp : smallP p) (hs : ∀ s ∈ l, smallS s) (hl : l.length ≤ 1048576) (hk : 2000010 ≤ k) (hk2 : k ≤ 3000000) : X.s_WeakestFor k p l = vWeak k p l := by
  unfold X.s_WeakestFor X.s_seAsked vWeak
  rw [s_seGood_eq hp hk, s_noList_eq hs hk, len0]
  cases h0 : gPat p <;> cases h1 : l.all gSign <;> cases h2 : decide (l.length ≤ 16) <;> cases h3 : decide (l.length = 0) <;> simp only [Bool.true_and, Bool.false_and, Bool.and_true, Bool.and_false, Bool.and_self, Bool.not_true, Bool.not_false, cond_true, cond_false, bind_some, if_true, Bool.false_eq_true, if_false]
  have hg : ∀ s ∈ l, gSign s = true := by simpa using h1
  rw [s_answers_eq h0 hg hl (by omega), bind_some, pos_len]
  cases h4 : decide ((ans p l).length = 0) <;> simp only [Bool.true_and, Bool.false_and, Bool.and_true, Bool.and_false, Bool.and_self, Bool.not_true, Bool.not_false, cond_true, cond_false, bind_some, if_true, Bool.false_eq_true, if_false]
  rw [show ((0 : Int), p) = (((0 : Nat) : Int), p) from rfl, weak_loop (l := l) (fun n q hn gq => ?_) k 0 p (by omega) h0]
  · dsimp only
    rw [s_answers_eq gq hg hl (by omega), bind_some, len0]
    by_cases h : (ans q l).length = 0
    · simp only [h, decide_true, cond_true, if_true]
      exact up_cases q n hn
    · simp [h]
theorem vWeak_some (p : Pattern) (l : List Sign) : ∃ v, vWeak 3000000 p l = some v := by
  unfold vWeak
  split
  · rename_i h
    simp only [Bool.and_eq_true, Bool.not_eq_true', decide_eq_false_iff_not] at h
    have hl : l ≠ [] := fun e => h.1.2 (by rw [e]; rfl)
    obtain ⟨r, hr⟩ := weak_some hl p 2999994
    rw [show 2999994 + 6 = 3000000 from rfl] at hr
    rw [hr]
    exact ⟨_, rfl⟩
  · exact ⟨_, rfl⟩
theorem Pure.FnExactAnswersFor (p : Pattern) (o_p : okPattern p) (l : List Sign) (o_l : okL okSign l) : X.l_FnExactAnswersFor 3000000 p l = some true := by
  unfold X.l_FnExactAnswersFor
  obtain ⟨r0, hr0, d0⟩ := szPattern_eq (p := p) (z := 1048576) o_p (by omega) (by omega)
  rw [hr0, bind_some]
  rcases d0 with d0 | ⟨h_p, p0, q0⟩
  · have : decide (r0 < 0) = true := by simpa using d0
    rw [this]
    rfl
  have e0 : decide (r0 < 0) = false := by simpa using p0
  rw [e0, cond_false]
  obtain ⟨r1, hr1, d1⟩ := szSignS_eq (l := l) (z := r0) o_l (by omega) (by omega)
  rw [hr1, bind_some]
  rcases d1 with d1 | ⟨n_l, h_l, p1, q1⟩
  · have : decide (r1 < 0) = true := by simpa using d1
    rw [this]
    rfl
  have e1 : decide (r1 < 0) = false := by simpa using p1
  rw [e1, cond_false]
  have hvl : (vAns p l).1.length ≤ 1048576 := (Nat.le_trans (vAns_len p l) n_l)
  have hpr : decide (1 + 1 * ((vAns p l).1.length : Int) < 0) = false := by simp; omega
  have hpa : decide (1 + 27 * (l.length : Int) < 0) = false := by simp; omega
  simp only [toPattern_eq,
    toSignS_eq n_l,
    eqSignS_eq n_l,
    bind_some,
    i_AnswersFor_eq h_p h_l n_l (show 100 ≤ 3000000 by omega),
    s_AnswersFor_eq h_p h_l n_l (show 2000010 ≤ 3000000 by omega),
    eqIntS_eq hvl,
    markIntS_eq (show (0 : Int) ≤ 1 by omega) (show (1 : Int) ≤ 1000000000000 by omega) hvl,
    heldIntS_eq (show (0 : Int) ≤ 1 by omega) (show (1 : Int) ≤ 1000000000000 by omega) hvl,
    hpr,
    markSignS_eq (k := 1) (show (0 : Int) ≤ 1 by omega) (show (1 : Int) ≤ 1000000000000 by omega) n_l,
    hpa]
  simp
theorem Pure.FnExactWeakestFor (p : Pattern) (o_p : okPattern p) (l : List Sign) (o_l : okL okSign l) : X.l_FnExactWeakestFor 3000000 p l = some true := by
  unfold X.l_FnExactWeakestFor
  obtain ⟨r0, hr0, d0⟩ := szPattern_eq (p := p) (z := 1048576) o_p (by omega) (by omega)
  rw [hr0, bind_some]
  rcases d0 with d0 | ⟨h_p, p0, q0⟩
  · have : decide (r0 < 0) = true := by simpa using d0
    rw [this]
    rfl
  have e0 : decide (r0 < 0) = false := by simpa using p0
  rw [e0, cond_false]
  obtain ⟨r1, hr1, d1⟩ := szSignS_eq (l := l) (z := r0) o_l (by omega) (by omega)
  rw [hr1, bind_some]
  rcases d1 with d1 | ⟨n_l, h_l, p1, q1⟩
  · have : decide (r1 < 0) = true := by simpa using d1
    rw [this]
    rfl
  have e1 : decide (r1 < 0) = false := by simpa using p1
  rw [e1, cond_false]
  obtain ⟨v, hv⟩ := vWeak_some p l
  simp only [hv, eqPattern_eq, toPattern_eq,
    toSignS_eq n_l,
    eqSignS_eq n_l,
    bind_some,
    i_Weak_eq h_p h_l n_l (show 100 ≤ 3000000 by omega) (Nat.le_refl 3000000),
    s_Weak_eq h_p h_l n_l (show 2000010 ≤ 3000000 by omega) (Nat.le_refl 3000000)]
  simp
end Go.Proofs.XC
