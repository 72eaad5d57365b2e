/- Plain laws of the plain functions: no program, no memory. By AI agents; no person has read it. -/
import Derived.Test.YtenkalmmdamfgaaGreatDoorSPL10
import Derived.Test.YtenkalmmdamfgaaGreatDoorSPQ3
set_option linter.unusedVariables false
set_option linter.unusedSimpArgs false
set_option maxRecDepth 100000
set_option maxHeartbeats 40000000
namespace Go.Proofs.XC
open Go Go.RowKit
/-! ### Drawn patterns -/
def tinyP (p : Pattern) : Prop := p.Shape.length ≤ 100 ∧ p.Orient.length ≤ 100 ∧ p.Steps.length ≤ 100
theorem tinyP_small {p : Pattern} (h : tinyP p) : smallP p := by unfold smallP; have := h.1; have := h.2.1; have := h.2.2; omega
theorem patTail {c : List Int} {t s : Int} {m : Nat} {p : Pattern} (hc : okB8 c) (hp : tinyP p) (h : Bg m t) (hm : 10 ≤ m) : Dw (m - 10) tinyP (Option.bind (X.s_l1Cur_pick c t s 12) fun v7_1 => (bif (v7_1.1 == 0) then (Option.bind (X.s_l1Cur_of c v7_1.2.1 v7_1.2.2 ([([49, 63, 63, 63, 63] : Str), ([50, 63, 48, 63, 63] : Str), ([63, 63, 63, 63, 63] : Str), ([48, 48, 48, 48] : Str), ([48, 63, 51, 63, 63] : Str), ([63, 63, 63, 63, 63, 63] : Str)] : List Str)) fun v9_2 => some ((⟨v9_2.1, p.Orient, p.Region, p.Steps, p.Hands⟩ : Pattern), v9_2.2.1, v9_2.2.2)) else (bif (v7_1.1 == 1) then (Option.bind (X.s_l1Cur_of c v7_1.2.1 v7_1.2.2 ([([63, 117] : Str), ([108, 114] : Str), ([98, 63] : Str), ([120, 63] : Str), ([63] : Str)] : List Str)) fun v11_2 => some ((⟨p.Shape, v11_2.1, p.Region, p.Steps, p.Hands⟩ : Pattern), v11_2.2.1, v11_2.2.2)) else (bif (v7_1.1 == 2) then (Option.bind (X.s_l1Cur_among c v7_1.2.1 v7_1.2.2 ([0, 5, 9, 10, (-2)] : List Int)) fun v13_2 => some ((⟨p.Shape, p.Orient, v13_2.1, p.Steps, p.Hands⟩ : Pattern), v13_2.2.1, v13_2.2.2)) else (bif (v7_1.1 == 3) then (Option.bind (X.s_l1Cur_of c v7_1.2.1 v7_1.2.2 ([([] : Str), ([63] : Str), ([42, 63, 42] : Str), ([114, 108, 42] : Str), ([42, 42] : Str), ([120] : Str), ([63, 63, 63, 63, 63, 63, 63, 63, 63, 63, 63, 63, 63, 63, 63, 63, 63, 63, 63, 63] : Str), ([63, 63, 63, 63, 63, 63, 63, 63, 63, 63, 63, 63, 63, 63, 63, 63, 63, 63, 63, 63, 63] : Str), ([42, 117, 42, 100, 42, 108, 42, 114, 42] : Str)] : List Str)) fun v15_2 => some ((⟨p.Shape, p.Orient, p.Region, v15_2.1, p.Hands⟩ : Pattern), v15_2.2.1, v15_2.2.2)) else (bif (v7_1.1 == 4) then (Option.bind (X.s_l1Cur_among c v7_1.2.1 v7_1.2.2 ([1, 2, 3, (-1)] : List Int)) fun v17_2 => some ((⟨p.Shape, p.Orient, p.Region, p.Steps, v17_2.1⟩ : Pattern), v17_2.2.1, v17_2.2.2)) else some (p, v7_1.2.1, v7_1.2.2))))))) := by
  refine Dw.bind (pick_ex hc h (by omega)) fun v t s h _ => ?_
  dsimp only
  refine Dw.cond (fun _ => ?_) (fun _ => Dw.cond (fun _ => ?_) (fun _ => Dw.cond (fun _ => ?_) (fun _ => Dw.cond (fun _ => ?_) (fun _ => Dw.cond (fun _ => ?_) (fun _ => Dw.done h hp (by omega))))))
  · exact Dw.bind (of_len hc h (by omega) (by simp) (by decide)) fun v t s h hv => Dw.done h ⟨hv, hp.2⟩ (by omega)
  · exact Dw.bind (of_len hc h (by omega) (by simp) (by decide)) fun v t s h hv => Dw.done h ⟨hp.1, hv, hp.2.2⟩ (by omega)
  · exact Dw.bind (among_ex hc h (by omega) (by simp)) fun v t s h hv => Dw.done h hp (by omega)
  · exact Dw.bind (of_len hc h (by omega) (by simp) (by decide)) fun v t s h hv => Dw.done h ⟨hp.1, hp.2.1, hv⟩ (by omega)
  · exact Dw.bind (among_ex hc h (by omega) (by simp)) fun v t s h hv => Dw.done h hp (by omega)
theorem blur_ex {c : List Int} {t s : Int} {m k : Nat} {w : Str} (hc : okB8 c) (hw : w.length ≤ 50) (h : Bg m t) (hm : 110 ≤ m) (hk : 100 ≤ k) : Dw (m - 110) (fun v : Str => v.length ≤ 100) (X.s_l1Cur_blur k c t s w) := by
  unfold X.s_l1Cur_blur
  have key : ∀ (q i K : Nat) (t s : Int) (u : Str), i + q = w.length → Bg (m - 110 + 2 * q) t → u.length ≤ i → q < K → ∃ u' t' s', loopM (σ := (Str × Int × Int × Int)) (fun ⟨t1, n2, n3, n4⟩ => (bif decide (n2 < (List.length w : Int)) then (Option.bind (X.s_l1Cur_one c n3 n4 2) fun v5_1 => (bif v5_1.1 then (Option.bind (catS t1 ([63] : Str)) fun y6_1 => some (.inl (y6_1, (wr (n2 + 1)), v5_1.2.1, v5_1.2.2))) else (Option.bind (cutS w n2 (wr (n2 + 1))) fun y7_5 => (Option.bind (catS t1 y7_5) fun y7_6 => some (.inl (y7_6, (wr (n2 + 1)), v5_1.2.1, v5_1.2.2)))))) else some (.inr (t1, n3, n4)))) K (u, (i : Int), t, s) = some (u', t', s') ∧ Bg (m - 110) t' ∧ u'.length ≤ 100 := by
    intro q
    induction q with
    | zero =>
      intro i K t s u hi h hu hK
      obtain ⟨f, rfl⟩ : ∃ f, K = f + 1 := ⟨K - 1, by omega⟩
      rw [loopM_succ]
      dsimp only
      rw [decide_eq_false (by omega), cond_false]
      exact ⟨u, t, s, rfl, h.le (by omega), by omega⟩
    | succ q ih =>
      intro i K t s u hi h hu hK
      obtain ⟨f, rfl⟩ : ∃ f, K = f + 1 := ⟨K - 1, by omega⟩
      rw [loopM_succ]
      dsimp only
      rw [decide_eq_true (by omega), cond_true]
      obtain ⟨v, t, s, e, h, _⟩ := one_ex (c := c) (t := t) (s := s) (n := 2) hc h (by omega)
      rw [e, bind_some]
      dsimp only
      have hw1 : wr ((i : Int) + 1) = ((i + 1 : Nat) : Int) := wr_suc (by omega)
      rw [hw1]
      cases v
      · obtain ⟨r, er, lr⟩ := cut_some (s := w) (a := (i : Int)) (b := ((i + 1 : Nat) : Int)) (by omega) (by omega) (by omega)
        rw [cond_false, er, bind_some, catS_of (by omega), bind_some, bind_some]
        exact ih (i + 1) f t s (u ++ r) (by omega) (h.le (by omega)) (by simp; omega) (by omega)
      · rw [cond_true, catS_of (by simp; omega), bind_some, bind_some]
        exact ih (i + 1) f t s (u ++ [63]) (by omega) (h.le (by omega)) (by simp; omega) (by omega)
  obtain ⟨u, t, s, e, h, hu⟩ := key w.length 0 k t s [] (by omega) (h.le (by omega)) (by simp) (by omega)
  have e : loopM _ k (([] : Str), (0 : Int), _, _) = _ := e
  rw [e, bind_some]
  exact Dw.done h hu (by omega)
theorem pOf_tiny {s : Sign} (g : gSign s = true) : (pOf s).Shape.length ≤ 5 ∧ (pOf s).Orient.length = 2 ∧ (pOf s).Steps.length ≤ 18 := by
  refine ⟨?_, rfl, all_len (gHand_iff.1 (nS_main g)).2.2.2⟩
  show ((tShape (nS s).Main.Shape).take 5).length ≤ 5
  rw [List.length_take]
  omega
theorem pattern_ex {c : List Int} {t s : Int} {m k : Nat} {g : Sign} (hc : okB8 c) (hg : tinyS g) (h : Bg m t) (hm : 500 ≤ m) (hk : 2000010 ≤ k) : Dw (m - 500) tinyP (X.s_l1Cur_pattern k c t s g) := by
  unfold X.s_l1Cur_pattern
  rw [s_PatternOf_eq (tinyS_small hg) hk, bind_some]
  cases gg : gSign g
  · exact (patTail (p := (⟨([48, 63, 63, 63, 63] : Str), ([102, 63] : Str), (-1), ([42, 114] : Str), 1⟩ : Pattern)) hc ⟨by decide, by decide, by decide⟩ h (by omega)).mono (by omega) fun _ h => h
  · obtain ⟨l1, l2, l3⟩ := pOf_tiny gg
    simp only [if_true, cond_true]
    generalize pOf g = P at l1 l2 l3
    obtain ⟨v1, t, s, e, h, h1⟩ := blur_ex (k := k) (s := s) (w := P.Shape) hc (by omega) h (by omega) (by omega)
    rw [e, bind_some]
    dsimp only
    obtain ⟨v2, t, s, e, h, h2⟩ := blur_ex (k := k) (s := s) (w := P.Orient) hc (by omega) h (by omega) (by omega)
    rw [e, bind_some]
    dsimp only
    obtain ⟨v3, t, s, e, h, _⟩ := among_ex (s := s) (l := ([(-1), P.Region] : List Int)) hc h (by omega) (by simp)
    rw [e, bind_some]
    dsimp only
    obtain ⟨v4, t, s, e, h, h4⟩ := blur_ex (k := k) (s := s) (w := P.Steps) hc (by omega) h (by omega) (by omega)
    rw [e, bind_some]
    dsimp only
    obtain ⟨v5, t, s, e, h, h5⟩ := of_len (s := s) (l := ([([42] : Str), P.Steps, v4] : List Str)) hc h (by omega) (by simp) (fun x hx => by
      simp only [List.mem_cons, List.not_mem_nil, or_false] at hx
      rcases hx with rfl | rfl | rfl
      · decide
      · omega
      · exact h4)
    rw [e, bind_some]
    dsimp only
    obtain ⟨v6, t, s, e, h, _⟩ := among_ex (s := s) (l := ([0, P.Hands] : List Int)) hc h (by omega) (by simp)
    rw [e, bind_some, bind_some]
    dsimp only
    have tl : ∀ (p : Pattern) (t s : Int) (n : Nat), tinyP p → Bg n t → m - 480 ≤ n → Dw (m - 500) tinyP (Option.bind (X.s_l1Cur_pick c t s 12) fun v7_1 => (bif (v7_1.1 == 0) then (Option.bind (X.s_l1Cur_of c v7_1.2.1 v7_1.2.2 ([([49, 63, 63, 63, 63] : Str), ([50, 63, 48, 63, 63] : Str), ([63, 63, 63, 63, 63] : Str), ([48, 48, 48, 48] : Str), ([48, 63, 51, 63, 63] : Str), ([63, 63, 63, 63, 63, 63] : Str)] : List Str)) fun v9_2 => some ((⟨v9_2.1, p.Orient, p.Region, p.Steps, p.Hands⟩ : Pattern), v9_2.2.1, v9_2.2.2)) else (bif (v7_1.1 == 1) then (Option.bind (X.s_l1Cur_of c v7_1.2.1 v7_1.2.2 ([([63, 117] : Str), ([108, 114] : Str), ([98, 63] : Str), ([120, 63] : Str), ([63] : Str)] : List Str)) fun v11_2 => some ((⟨p.Shape, v11_2.1, p.Region, p.Steps, p.Hands⟩ : Pattern), v11_2.2.1, v11_2.2.2)) else (bif (v7_1.1 == 2) then (Option.bind (X.s_l1Cur_among c v7_1.2.1 v7_1.2.2 ([0, 5, 9, 10, (-2)] : List Int)) fun v13_2 => some ((⟨p.Shape, p.Orient, v13_2.1, p.Steps, p.Hands⟩ : Pattern), v13_2.2.1, v13_2.2.2)) else (bif (v7_1.1 == 3) then (Option.bind (X.s_l1Cur_of c v7_1.2.1 v7_1.2.2 ([([] : Str), ([63] : Str), ([42, 63, 42] : Str), ([114, 108, 42] : Str), ([42, 42] : Str), ([120] : Str), ([63, 63, 63, 63, 63, 63, 63, 63, 63, 63, 63, 63, 63, 63, 63, 63, 63, 63, 63, 63] : Str), ([63, 63, 63, 63, 63, 63, 63, 63, 63, 63, 63, 63, 63, 63, 63, 63, 63, 63, 63, 63, 63] : Str), ([42, 117, 42, 100, 42, 108, 42, 114, 42] : Str)] : List Str)) fun v15_2 => some ((⟨p.Shape, p.Orient, p.Region, v15_2.1, p.Hands⟩ : Pattern), v15_2.2.1, v15_2.2.2)) else (bif (v7_1.1 == 4) then (Option.bind (X.s_l1Cur_among c v7_1.2.1 v7_1.2.2 ([1, 2, 3, (-1)] : List Int)) fun v17_2 => some ((⟨p.Shape, p.Orient, p.Region, p.Steps, v17_2.1⟩ : Pattern), v17_2.2.1, v17_2.2.2)) else some (p, v7_1.2.1, v7_1.2.2))))))) := fun p t s n hp h hn => (patTail hc hp h (by omega)).mono (by omega) fun _ h => h
    refine Dw.cond (fun hd => ?_) (fun _ => tl ⟨v1, v2, v3, v5, v6⟩ _ _ _ ⟨h1, h2, h5⟩ h (by omega))
    have hd := of_decide_eq_true hd
    refine Dw.bind (one_ex hc h (by omega)) fun v t s h _ => ?_
    dsimp only
    refine Dw.cond (fun _ => ?_) (fun _ => tl ⟨v1, v2, v3, v5, v6⟩ _ _ _ ⟨h1, h2, h5⟩ h (by omega))
    obtain ⟨r, er, lr⟩ := cut_some (s := P.Steps) (a := 0) (b := 1) (by omega) (by omega) (by omega)
    rw [er, bind_some, catS_of (by simp; omega), bind_some]
    exact tl ⟨v1, v2, v3, r ++ [42], v6⟩ _ _ _ ⟨h1, h2, by simp; omega⟩ h (by omega)
theorem answersDraw_ex {c : List Int} {k : Nat} (hc : okB8 c) (hk : 2000010 ≤ k) : ∃ p L, X.s_DrawAnswersFor k c = some (p, L) ∧ tinyP p ∧ L.length ≤ 17 ∧ allT L := by
  unfold X.s_DrawAnswersFor X.s_l1Cur_patternAnd
  obtain ⟨L, t, s, e, h, hn, hL⟩ := lexicon_ex (s := 0) hc Bg.start (by omega) hk
  rw [e, bind_some]
  dsimp only
  by_cases h0 : L.length = 0
  · have : ((L.length : Int) == 0) = true := by rw [beq_iff_eq]; omega
    obtain ⟨x, t, s, e, h, hx⟩ := sign_ex (s := s) hc h (by omega) hk
    rw [this, cond_true, e, bind_some]
    dsimp only
    obtain ⟨p, t, s, e, h, hp⟩ := pattern_ex (s := s) hc hx h (by omega) hk
    rw [e]
    exact ⟨p, L, rfl, hp, hn, hL⟩
  · have : ((L.length : Int) == 0) = false := by rw [beq_eq_false_iff_ne]; omega
    obtain ⟨v, t, s, e, h, hv⟩ := pick_ex (s := s) (n := (L.length : Int)) hc h (by omega)
    rw [this, cond_false, e, bind_some]
    dsimp only
    obtain ⟨x, ex, hx⟩ := getT (z := v) hL hv.1 (by have := hv.2; omega)
    rw [ex, bind_some]
    obtain ⟨p, t, s, e, h, hp⟩ := pattern_ex (s := s) hc hx h (by omega) hk
    rw [e]
    exact ⟨p, L, rfl, hp, hn, hL⟩
theorem bestDraw_ex {c : List Int} {k : Nat} (hc : okB8 c) (hk : 2000010 ≤ k) : ∃ L, X.s_DrawBestQuestion k c = some L ∧ L.length ≤ 17 ∧ allT L := by
  unfold X.s_DrawBestQuestion
  obtain ⟨L, t, s, e, h, hL⟩ := lexicon_ex (s := 0) hc Bg.start (by omega) hk
  rw [e]
  exact ⟨L, rfl, hL⟩
theorem weakerDraw_ex {c : List Int} {k : Nat} (hc : okB8 c) (hk : 2000010 ≤ k) : ∃ p q, X.s_DrawIsWeaker k c = some (p, q) ∧ tinyP p ∧ tinyP q := by
  unfold X.s_DrawIsWeaker
  obtain ⟨x, t, s, e, h, hx⟩ := sign_ex (s := 0) hc Bg.start (by omega) hk
  rw [e, bind_some]
  dsimp only
  obtain ⟨p, t, s, e, h, hp⟩ := pattern_ex (s := s) hc hx h (by omega) hk
  rw [e, bind_some]
  dsimp only
  obtain ⟨v, t, s, e, h, _⟩ := one_ex (s := s) (n := 2) hc h (by omega)
  rw [e, bind_some]
  dsimp only
  have other : ∀ (t s : Int), Bg 1000 t → ∃ p' q, (Option.bind (X.s_l1Cur_sign k c t s) fun v10_3 => (Option.bind (X.s_l1Cur_pattern k c v10_3.2.1 v10_3.2.2 v10_3.1) fun v10_4 => some (p, v10_4.1))) = some (p', q) ∧ tinyP p' ∧ tinyP q := by
    intro t s h
    obtain ⟨x, t, s, e, h, hx⟩ := sign_ex (s := s) hc h (by omega) hk
    rw [e, bind_some]
    dsimp only
    obtain ⟨q, t, s, e, h, hq⟩ := pattern_ex (s := s) hc hx h (by omega) hk
    rw [e]
    exact ⟨p, q, rfl, hp, hq⟩
  cases v
  · exact other _ _ (h.le (by omega))
  · rw [cond_true, s_seGood_eq (tinyP_small hp) hk, bind_some]
    cases g : gPat p
    · exact other _ _ (h.le (by omega))
    · have hl := gPat_iff g
      obtain ⟨a, t, s, e, h, ha⟩ := blur_ex (k := k) (s := s) (w := p.Shape) hc (by omega) h (by omega) (by omega)
      rw [cond_true, e, bind_some]
      dsimp only
      obtain ⟨b, t, s, e, h, hb⟩ := of_len (s := s) (l := ([([42] : Str), p.Steps] : List Str)) hc h (by omega) (by simp) (fun x hx => by
        simp only [List.mem_cons, List.not_mem_nil, or_false] at hx
        rcases hx with rfl | rfl
        · decide
        · omega)
      rw [e, bind_some]
      dsimp only
      obtain ⟨v, t, s, e, h, _⟩ := one_ex (s := s) (n := 2) hc h (by omega)
      rw [e, bind_some]
      dsimp only
      cases v
      · exact ⟨_, _, rfl, hp, ha, hp.2.1, hb⟩
      · exact ⟨_, _, rfl, ⟨ha, hp.2.1, hb⟩, hp⟩
/-! ### What matches -/
theorem mis_fold (s : Str) : ∀ (l : Str) (j : Nat) (n : Int), n ≤ foldS (misG s) (fun n => n) l j n ∧ (foldS (misG s) (fun n => n) l j n = n ↔ ∀ (i : Nat) x, l[i]? = some x → x = 63 ∨ s[j + i]? = some x)
  | [], j, n => ⟨Int.le_refl _, fun _ i x hx => (by simp at hx), fun _ => rfl⟩
  | x :: l, j, n => by
    have step : foldS (misG s) (fun n => n) (x :: l) j n = foldS (misG s) (fun n => n) l (j + 1) (if x = 63 then n else if s[j]? = some x then n else n + 1) := rfl
    rw [step]
    obtain ⟨a1, a2⟩ := mis_fold s l (j + 1) (if x = 63 then n else if s[j]? = some x then n else n + 1)
    by_cases h : x = 63 ∨ s[j]? = some x
    · have e : (if x = 63 then n else if s[j]? = some x then n else n + 1) = n := by
        rcases h with h | h
        · rw [if_pos h]
        · by_cases h2 : x = 63
          · rw [if_pos h2]
          · rw [if_neg h2, if_pos h]
      rw [e] at a1 a2 ⊢
      refine ⟨a1, a2.trans ⟨fun h2 i y hy => ?_, fun h2 i y hy => ?_⟩⟩
      · cases i with
        | zero =>
          have hy : some x = some y := hy
          cases hy
          exact h
        | succ i =>
          rw [show j + (i + 1) = j + 1 + i by omega]
          exact h2 i y hy
      · rw [show j + 1 + i = j + (i + 1) by omega]
        exact h2 (i + 1) y hy
    · have e : (if x = 63 then n else if s[j]? = some x then n else n + 1) = n + 1 := by
        rw [if_neg (fun h2 => h (.inl h2)), if_neg (fun h2 => h (.inr h2))]
      rw [e] at a1 a2 ⊢
      refine ⟨by omega, fun h2 => by omega, fun h2 => ?_⟩
      exact absurd (h2 0 x rfl) h
theorem mis_zero {p s : Str} : mis p s = 0 ↔ ∀ (i : Nat) x, p[i]? = some x → x = 63 ∨ s[i]? = some x := by
  have := (mis_fold s p 0 0).2
  simp only [Nat.zero_add] at this
  exact this
theorem mis_self (p : Str) : mis p p = 0 := mis_zero.2 fun i x hx => .inr hx
theorem mis_trans {a b s : Str} (h1 : mis a b = 0) (h2 : mis b s = 0) : mis a s = 0 := mis_zero.2 fun i x hx => by
  rcases mis_zero.1 h1 i x hx with h | h
  · exact .inl h
  · exact mis_zero.1 h2 i x h
theorem fit_self {s : Str} (h : ∀ x ∈ s, x ≠ 42) : fitV s s = true := by
  unfold fitV fitE
  have key : ∀ (r : Str) (i : Nat) (E : Nat → Bool), s.drop i = r → i ≤ s.length → E i = true → (r.foldl (fun E c => stepE c s E) E) s.length = true := by
    intro r
    induction r with
    | nil =>
      intro i E hd hi he
      have hle : s.length ≤ i := List.drop_eq_nil_iff.1 hd
      have : i = s.length := by omega
      subst this
      exact he
    | cons x r ih =>
      intro i E hd hi he
      have hx : s[i]? = some x := by
        have := congrArg (fun l => l[0]?) hd
        simpa using this
      have hlt := some_len hx
      have hd' : s.drop (i + 1) = r := by rw [← List.drop_drop (i := 1) (j := i), hd]; rfl
      rw [List.foldl_cons]
      refine ih (i + 1) _ hd' (by omega) ?_
      unfold stepE hitS
      rw [if_neg (h x (List.mem_of_getElem? hx))]
      dsimp only
      rw [he, decide_eq_true hx]
      simp
  exact key s 0 _ rfl (Nat.zero_le _) rfl
theorem cost_zero {p : Pattern} {s : Sign} : costV p s = 0 ↔ mis p.Shape (pOf s).Shape = 0 ∧ mis p.Orient (pOf s).Orient = 0 ∧ ¬ (p.Region ≥ 0 ∧ p.Region ≠ (pOf s).Region) ∧ ¬ (p.Hands > 0 ∧ p.Hands ≠ (pOf s).Hands) ∧ fitV p.Steps (pOf s).Steps = true := by
  unfold costV
  have h1 := (mis_bd p.Shape (pOf s).Shape).1
  have h2 := (mis_bd p.Orient (pOf s).Orient).1
  by_cases h3 : p.Region ≥ 0 ∧ p.Region ≠ (pOf s).Region
  · rw [if_pos h3]
    constructor
    · intro h; exfalso; (repeat' split at h) <;> omega
    · rintro ⟨_, _, h, _⟩; exact absurd h3 h
  · rw [if_neg h3]
    by_cases h4 : p.Hands > 0 ∧ p.Hands ≠ (pOf s).Hands
    · rw [if_pos h4]
      constructor
      · intro h; exfalso; (repeat' split at h) <;> omega
      · rintro ⟨_, _, _, h, _⟩; exact absurd h4 h
    · rw [if_neg h4]
      by_cases h5 : fitV p.Steps (pOf s).Steps = true
      · rw [if_pos h5]
        exact ⟨fun h => ⟨by omega, by omega, h3, h4, h5⟩, fun ⟨a, b, _⟩ => by omega⟩
      · rw [if_neg h5]
        exact ⟨fun h => by omega, fun ⟨_, _, _, _, h⟩ => absurd h h5⟩
theorem cost_bnd {p : Pattern} (g : gPat p = true) (s : Sign) : 0 ≤ costV p s ∧ costV p s ≤ 14 := by
  have hl := gPat_iff g
  unfold costV
  have h1 := mis_bd p.Shape (pOf s).Shape
  have h2 := mis_bd p.Orient (pOf s).Orient
  (repeat' split) <;> omega
theorem pOf_good {s : Sign} (g : gSign s = true) : gPat (pOf s) = true ∧ costV (pOf s) s = 0 := by
  obtain ⟨g1, g2, g3, g4⟩ := gHand_iff.1 (nS_main g)
  obtain ⟨m1, m2, m3, m4⟩ := gMove_iff.1 g4
  have hst : (allSteps (nS s).Main.Move).all isDir = true := repeatL_all _ _ _ m2
  have hdir : ∀ x : UInt8, isDir x = true → x ∈ ([117, 100, 108, 114, 102, 98, 63, 42] : Str) ∧ x ≠ 42 := by
    intro x hx
    unfold isDir at hx
    simp only [Bool.or_eq_true, beq_iff_eq] at hx
    rcases hx with rfl | rfl | rfl | rfl | rfl | rfl <;> decide
  have hst2 : ∀ x ∈ allSteps (nS s).Main.Move, isDir x = true := List.all_eq_true.1 hst
  have hreg : inR (pOf s).Region (-1) 9 = true := by
    show inR (nS s).Main.Place.Region (-1) 9 = true
    unfold gPlace at g3
    simp only [Bool.and_eq_true, inR, decide_eq_true_iff] at g3 ⊢
    omega
  constructor
  · have d : ∀ z : Int, 0 ≤ z → z ≤ 2 → dig z ∈ ([48, 49, 50, 63] : Str) := by
      intro z h0 h1
      have : z = 0 ∨ z = 1 ∨ z = 2 := by omega
      rcases this with rfl | rfl | rfl <;> decide
    have dd : ∀ z : Int, inR z 0 5 = true → dl z ∈ ([117, 100, 108, 114, 102, 98, 63] : Str) := by
      intro z h
      rcases inR_cases h with rfl | rfl | rfl | rfl | rfl | rfl <;> decide
    have hsh : (pOf s).Shape = [dig (nS s).Main.Shape.Thumb, dig (nS s).Main.Shape.Index, dig (nS s).Main.Shape.Middle, dig (nS s).Main.Shape.Ring, dig (nS s).Main.Shape.Little] := by
      show (tShape (nS s).Main.Shape).take 5 = _
      unfold tShape
      simp
    obtain ⟨s1, s2, s3, s4, s5, _⟩ := gShape_iff.1 g1
    obtain ⟨o1, o2, _⟩ := gOrient_iff.1 g2
    have hl := all_len g4
    unfold gPat
    rw [hsh]
    simp only [Bool.and_eq_true, List.all_eq_true, decide_eq_true_iff]
    refine ⟨rfl, fun x hx => ?_, rfl, fun x hx => ?_, hreg, ?_, fun x hx => (hdir x (hst2 x hx)).1, ?_⟩
    · simp only [List.mem_cons, List.not_mem_nil, or_false] at hx
      rcases hx with rfl | rfl | rfl | rfl | rfl
      · exact d _ s1.1 s1.2
      · exact d _ s2.1 s2.2
      · exact d _ s3.1 s3.2
      · exact d _ s4.1 s4.2
      · exact d _ s5.1 s5.2
    · have hx : x ∈ [dl (nS s).Main.Orient.Palm, dl (nS s).Main.Orient.Fingers] := hx
      simp only [List.mem_cons, List.not_mem_nil, or_false] at hx
      rcases hx with rfl | rfl
      · exact dd _ o1
      · exact dd _ o2
    · show (allSteps (nS s).Main.Move).length ≤ 20
      omega
    · show inR (if s.Two then 2 else 1) 0 2 = true
      cases s.Two <;> decide
  · exact cost_zero.2 ⟨mis_self _, mis_self _, fun h => h.2 rfl, fun h => h.2 rfl, fit_self fun x hx => (hdir x (hst2 x hx)).2⟩
/-! ### Weaker patterns -/
def wkr (x y : Pattern) : Bool := bif (mis x.Shape y.Shape == 0) then (bif (mis x.Orient y.Orient == 0) then (bif decide (x.Region < 0) then (bif (x.Hands == 0) then (bif (seq x.Steps ([42] : Str)) then true else seq x.Steps y.Steps) else (bif (x.Hands == y.Hands) then (bif (seq x.Steps ([42] : Str)) then true else seq x.Steps y.Steps) else false)) else (bif (x.Region == y.Region) then (bif (x.Hands == 0) then (bif (seq x.Steps ([42] : Str)) then true else seq x.Steps y.Steps) else (bif (x.Hands == y.Hands) then (bif (seq x.Steps ([42] : Str)) then true else seq x.Steps y.Steps) else false)) else false)) else false) else false
def vWkr (x y : Pattern) : Bool × Bool := if (gPat x && gPat y) = true then (wkr x y, true) else (false, false)
theorem i_Wkr_eq {x y : Pattern} (hx : tinyP x) (hy : tinyP y) : X.i_IsWeaker x y = some (vWkr x y) := by
  unfold X.i_IsWeaker vWkr
  rw [i_IsPattern_eq (tinyP_small hx), bind_some, i_IsPattern_eq (tinyP_small hy), bind_some]
  cases g1 : gPat x
  · rfl
  cases g2 : gPat y
  · rfl
  have l1 := gPat_iff g1
  have l2 := gPat_iff g2
  simp only [Bool.not_true, cond_false, Bool.and_self, if_true]
  rw [i_apart_eq (by omega) (by omega), i_apart_eq (by omega) (by omega), bind_some, bind_some]
  unfold wkr
  cases mis x.Shape y.Shape == 0 <;> cases mis x.Orient y.Orient == 0 <;> cases decide (x.Region < 0) <;> cases x.Region == y.Region <;> cases x.Hands == 0 <;> cases x.Hands == y.Hands <;> cases seq x.Steps ([42] : Str) <;> rfl
theorem s_Wkr_eq {k : Nat} {x y : Pattern} (hx : tinyP x) (hy : tinyP y) (hk : 2000010 ≤ k) : X.s_IsWeaker k x y = some (vWkr x y) := by
  unfold X.s_IsWeaker vWkr
  rw [s_seGood_eq (tinyP_small hx) hk, bind_some, s_seGood_eq (tinyP_small hy) hk, bind_some]
  cases g1 : gPat x
  · rfl
  cases g2 : gPat y
  · rfl
  have l1 := gPat_iff g1
  have l2 := gPat_iff g2
  simp only [Bool.not_true, cond_false, Bool.and_self, if_true]
  rw [s_missed_eq (by omega) (by omega) (by omega), s_missed_eq (by omega) (by omega) (by omega), bind_some, bind_some]
  unfold wkr
  cases mis x.Shape y.Shape == 0 <;> cases mis x.Orient y.Orient == 0 <;> cases decide (x.Region < 0) <;> cases x.Region == y.Region <;> cases x.Hands == 0 <;> cases x.Hands == y.Hands <;> cases seq x.Steps ([42] : Str) <;> rfl
theorem wkr_cost {x y : Pattern} (h : wkr x y = true) {s : Sign} (hy : costV y s = 0) : costV x s = 0 := by
  obtain ⟨a1, a2, a3, a4, a5⟩ := cost_zero.1 hy
  have steps : (bif (seq x.Steps ([42] : Str)) then true else seq x.Steps y.Steps) = true → fitV x.Steps (pOf s).Steps = true := by
    rw [seq_eq, seq_eq]
    by_cases h1 : x.Steps = [42]
    · intro _
      rw [h1]
      exact fit_star _
    · rw [decide_eq_false h1, cond_false, decide_eq_true_iff]
      intro h2
      rw [h2]
      exact a5
  have hands : (bif (x.Hands == 0) then (bif (seq x.Steps ([42] : Str)) then true else seq x.Steps y.Steps) else (bif (x.Hands == y.Hands) then (bif (seq x.Steps ([42] : Str)) then true else seq x.Steps y.Steps) else false)) = true → ¬ (x.Hands > 0 ∧ x.Hands ≠ (pOf s).Hands) ∧ fitV x.Steps (pOf s).Steps = true := by
    by_cases h1 : x.Hands = 0
    · rw [h1, beq_self_eq_true, cond_true]
      exact fun h => ⟨fun h2 => by omega, steps h⟩
    · rw [beq_eq_false_iff_ne.2 h1, cond_false]
      by_cases h2 : x.Hands = y.Hands
      · rw [h2, beq_self_eq_true, cond_true]
        exact fun h => ⟨a4, steps h⟩
      · rw [beq_eq_false_iff_ne.2 h2, cond_false]
        exact fun h => by cases h
  unfold wkr at h
  by_cases h1 : mis x.Shape y.Shape = 0
  · rw [h1, beq_self_eq_true, cond_true] at h
    by_cases h2 : mis x.Orient y.Orient = 0
    · rw [h2, beq_self_eq_true, cond_true] at h
      have m1 := mis_trans h1 a1
      have m2 := mis_trans h2 a2
      by_cases h3 : x.Region < 0
      · rw [decide_eq_true h3, cond_true] at h
        obtain ⟨b1, b2⟩ := hands h
        exact cost_zero.2 ⟨m1, m2, fun h => by omega, b1, b2⟩
      · rw [decide_eq_false h3, cond_false] at h
        by_cases h4 : x.Region = y.Region
        · have e4 : (x.Region == y.Region) = true := by rw [h4]; exact beq_self_eq_true _
          rw [e4, cond_true] at h
          obtain ⟨b1, b2⟩ := hands h
          exact cost_zero.2 ⟨m1, m2, by rw [h4]; exact a3, b1, b2⟩
        · rw [beq_eq_false_iff_ne.2 h4, cond_false] at h
          cases h
    · rw [beq_eq_false_iff_ne.2 h2, cond_false] at h
      cases h
  · rw [beq_eq_false_iff_ne.2 h1, cond_false] at h
    cases h
theorem qPattern_refl (p : Pattern) : qPattern p p = true := by
  cases p
  unfold qPattern
  simp [seq_eq]
theorem ixs_full {α : Type} (p : α → Bool) : ∀ (l : List α) (j : Nat), (∀ x ∈ l, p x = true) → (ixs p l j).length = l.length
  | [], j, _ => rfl
  | x :: l, j, h => by
    rw [ixs, if_pos (h x List.mem_cons_self), List.length_cons, List.length_cons, ixs_full p l (j + 1) fun y hy => h y (List.mem_cons_of_mem _ hy)]
theorem Pure.FnSearches (c : List Int) (o_c : okL okY c) (d : List Int) (o_d : okL okY d) : X.l_FnSearches 3000000 c d = some true := by
  have hc := okB8_of o_c
  have hd := okB8_of o_d
  unfold X.l_FnSearches
  obtain ⟨v, e⟩ := big_eq c d
  rw [e, bind_some]
  cases v with
  | true => rfl
  | false =>
  rw [cond_false]
  obtain ⟨p, L, e, hp, hn, hL⟩ := answersDraw_ex (k := 3000000) hc (by omega)
  have hs : ∀ s ∈ L, smallS s := fun s h => tinyS_small (hL s h)
  have sp := tinyP_small hp
  rw [e, bind_some]
  dsimp only
  rw [i_AnswersFor_eq sp hs (by omega) (by omega), bind_some, s_AnswersFor_eq sp hs (by omega) (by omega), bind_some]
  have andd : ∀ {a b : Bool}, (a && b) = true → a = true ∧ b = true := fun {a b} h => by rw [Bool.and_eq_true] at h; exact h
  refine bindB (v := false) ?_ ?_
  · simp only [beq_self_eq_true, Bool.not_true, cond_false, sameInts_refl, bind_some]
    unfold vAns
    by_cases g : (gPat p && (L.all gSign && decide (L.length ≤ 16))) = true
    · rw [if_pos g]
      simp only [cond_true]
      rw [i_IsPattern_eq sp, bind_some, (andd g).1]
      rfl
    · rw [if_neg g]
      rfl
  rw [cond_false]
  refine orElB (v := ()) ?_ ?_
  · by_cases g : (gPat p && (L.all gSign && decide (L.length ≤ 16))) = true
    · have e1 : vAns p L = (ixs (fun s => costV p s == 0) L 0, true) := by unfold vAns; rw [if_pos g]; rfl
      obtain ⟨gp, gl⟩ := andd g
      have hg : ∀ s ∈ L, gSign s = true := List.all_eq_true.1 (andd gl).1
      rw [e1]
      dsimp only
      rw [cond_true]
      refine orElB (v := ()) ?_ ?_
      · rw [range_all0]
        intro i s hi
        have ms := List.mem_of_getElem? hi
        have gs := hg s ms
        have ss := hs s ms
        obtain ⟨b1, b2⟩ := cost_bnd gp s
        obtain ⟨o1, o2⟩ := pOf_good gs
        obtain ⟨l1, l2, l3⟩ := pOf_tiny gs
        have so : smallP (pOf s) := by unfold smallP; omega
        have f1 : vMatch p s = (costV p s == 0, true) := by unfold vMatch; rw [gp, gs]; rfl
        have f2 : vCost p s = (costV p s, true) := by unfold vCost; rw [gp, gs]; rfl
        have f3 : vMatch (pOf s) s = (true, true) := by unfold vMatch; rw [o1, gs, o2]; rfl
        rw [i_MatchesSign_eq sp ss (by omega), bind_some, s_MatchesSign_eq sp ss (by omega), bind_some, i_CostOfMatch_eq sp ss (by omega), bind_some, s_CostOfMatch_eq sp ss (by omega), bind_some, i_PatternOf_eq ss (by omega), bind_some, s_PatternOf_eq ss (by omega), bind_some, f1, f2, if_pos gs]
        dsimp only
        rw [i_MatchesSign_eq so ss (by omega), bind_some, f3]
        simp only [Bool.not_true, cond_false, beq_self_eq_true, bne_self_eq_false, pIn_eq, bind_some]
        rw [at_ixs hi, decide_eq_false (by omega), decide_eq_false (by omega), qPattern_refl]
        simp only [beq_self_eq_true, Bool.not_true, cond_false]
      · have hq : smallP (⟨([63, 63, 63, 63, 63] : Str), ([63, 63] : Str), (-1), ([42] : Str), zPattern.Hands⟩ : Pattern) := ⟨by decide, by decide, by decide⟩
        have gq : gPat (⟨([63, 63, 63, 63, 63] : Str), ([63, 63] : Str), (-1), ([42] : Str), zPattern.Hands⟩ : Pattern) = true := by decide
        rw [i_AnswersFor_eq hq hs (by omega) (by omega), bind_some]
        have e2 : vAns (⟨([63, 63, 63, 63, 63] : Str), ([63, 63] : Str), (-1), ([42] : Str), zPattern.Hands⟩ : Pattern) L = (ixs (fun s => costV (⟨([63, 63, 63, 63, 63] : Str), ([63, 63] : Str), (-1), ([42] : Str), zPattern.Hands⟩ : Pattern) s == 0) L 0, true) := by
          unfold vAns
          rw [gq, gl]
          rfl
        have e3 := ixs_full (fun s => costV (⟨([63, 63, 63, 63, 63] : Str), ([63, 63] : Str), (-1), ([42] : Str), zPattern.Hands⟩ : Pattern) s == 0) L 0 fun s _ => by
          have : costV (⟨([63, 63, 63, 63, 63] : Str), ([63, 63] : Str), (-1), ([42] : Str), zPattern.Hands⟩ : Pattern) s = 0 := cost_zero.2 ⟨mis_q5 _, mis_q2 _, fun h => by have := h.1; simp at this, fun h => by have := h.1; revert this; decide, fit_star _⟩
          rw [this]
          rfl
        rw [e2]
        refine bindB (v := false) ?_ rfl
        dsimp only
        rw [e3, bne_self_eq_false]
        rfl
    · unfold vAns
      rw [if_neg g]
      rfl
  obtain ⟨x, y, e, hx, hy⟩ := weakerDraw_ex (k := 3000000) hd (by omega)
  rw [e, bind_some]
  dsimp only
  rw [i_Wkr_eq hx hy, bind_some, s_Wkr_eq hx hy (by omega), bind_some]
  refine bindB (v := false) ?_ ?_
  · simp only [beq_self_eq_true, Bool.not_true, cond_false]
  rw [cond_false]
  unfold vWkr
  by_cases g : (gPat x && gPat y) = true
  · rw [if_pos g]
    dsimp only
    rw [cond_true, bind_some]
    cases hw : wkr x y
    · rfl
    · obtain ⟨M, e, hnM, hM⟩ := bestDraw_ex (k := 3000000) hd (by omega)
      have hsM : ∀ s ∈ M, smallS s := fun s h => tinyS_small (hM s h)
      obtain ⟨gx, gy⟩ := andd g
      rw [cond_true, e, bind_some, i_AnswersFor_eq (tinyP_small hx) hsM (by omega) (by omega), bind_some, i_AnswersFor_eq (tinyP_small hy) hsM (by omega) (by omega), bind_some]
      unfold vAns
      rw [gx, gy]
      cases gl : (M.all gSign && decide (M.length ≤ 16))
      · rfl
      · simp only [Bool.and_self, if_true, beq_self_eq_true, Bool.not_true, cond_false]
        rw [range_all0]
        · rfl
        · intro i z hz
          have hm : z ∈ ans y M := List.mem_of_getElem? hz
          unfold ans at hm ⊢
          obtain ⟨q, s, h1, h2, h3⟩ := mem_ixs.1 hm
          have hz0 : costV y s = 0 := by simpa using h2
          have hx0 := wkr_cost hw hz0
          have hmx : z ∈ ixs (fun s => costV x s == 0) M 0 := mem_ixs.2 ⟨q, s, h1, by rw [hx0]; rfl, h3⟩
          rw [pIn_eq, bind_some, decide_eq_true hmx]
          rfl
  · rw [if_neg g]
    rfl
end Go.Proofs.XC
