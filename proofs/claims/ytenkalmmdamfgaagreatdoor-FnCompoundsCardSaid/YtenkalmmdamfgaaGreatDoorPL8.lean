/- Plain laws of the plain functions: no program, no memory. By AI agents; no person has read it. -/
import Derived.Test.YtenkalmmdamfgaaGreatDoorPL6
import Derived.Test.YtenkalmmdamfgaaGreatDoorPQ4
set_option linter.unusedVariables false
set_option linter.unusedSimpArgs false
set_option maxRecDepth 100000
set_option maxHeartbeats 40000000
namespace Go.Proofs.XC
open Go Go.RowKit
/-! ### Roots -/
theorem rootF_is (s : Str) (h0 : 1 ≤ s.length) : ∀ (d n : Nat), 1 ≤ n → n + d = s.length → ∃ q, n ≤ q ∧ q ≤ s.length ∧ rootF s n d = s.take q ∧ isRoot s q = true ∧ (∀ p, n ≤ p → isRoot s p = true → p ≤ s.length → q ≤ p)
  | 0, n, h1, h => by
    have hn : n = s.length := by omega
    refine ⟨n, Nat.le_refl _, by omega, by rw [rootF, hn, List.take_length], ?_, fun p hp _ _ => hp⟩
    rw [hn]
    unfold isRoot
    rw [List.take_length, Nat.mod_self, Nat.div_self (by omega), repeatL_one]
    simp
  | d + 1, n, h1, h => by
    rw [rootF]
    by_cases hr : isRoot s n = true
    · rw [if_pos hr]
      exact ⟨n, Nat.le_refl _, by omega, rfl, hr, fun p hp _ _ => hp⟩
    · rw [if_neg hr]
      obtain ⟨q, h2, h3, h4, h5, h6⟩ := rootF_is s h0 d (n + 1) (by omega) (by omega)
      refine ⟨q, by omega, h3, h4, h5, fun p hp hr2 hl => ?_⟩
      rcases Nat.lt_or_ge n p with h7 | h7
      · exact h6 p h7 hr2 hl
      · have : p = n := by omega
        subst this
        exact absurd hr2 hr
theorem repeatL_add (u : Str) (a : Nat) : ∀ b, Lib.repeatL u (a + b) = Lib.repeatL u a ++ Lib.repeatL u b
  | 0 => by simp [Lib.repeatL]
  | b + 1 => by
    rw [← Nat.add_assoc]
    show u ++ Lib.repeatL u (a + b) = Lib.repeatL u a ++ (u ++ Lib.repeatL u b)
    rw [repeatL_add u a b, ← List.append_assoc, ← repeatL_comm, List.append_assoc]
theorem repeatL_mul (u : Str) (a : Nat) : ∀ b, Lib.repeatL (Lib.repeatL u a) b = Lib.repeatL u (a * b)
  | 0 => rfl
  | b + 1 => by
    show Lib.repeatL u a ++ Lib.repeatL (Lib.repeatL u a) b = _
    rw [repeatL_mul u a b, Nat.mul_succ, Nat.add_comm, repeatL_add]
theorem root_root (s : Str) : root (root s) = root s := by
  by_cases h : s = []
  · subst h; rfl
  have hl : 1 ≤ s.length := by
    rcases Nat.eq_zero_or_pos s.length with h1 | h1
    · exact absurd (List.eq_nil_of_length_eq_zero h1) h
    · exact h1
  obtain ⟨q, a1, a2, a3, a4, a5⟩ := rootF_is s hl (s.length - 1) 1 (Nat.le_refl _) (by omega)
  have hr : root s = s.take q := a3
  have hlen : (s.take q).length = q := by rw [List.length_take]; omega
  obtain ⟨p, b1, b2, b3, b4, b5⟩ := rootF_is (s.take q) (by omega) ((s.take q).length - 1) 1 (Nat.le_refl _) (by omega)
  have hr2 : root (s.take q) = (s.take q).take p := b3
  rw [hlen] at b2
  have key : isRoot s p = true := by
    unfold isRoot at a4 b4 ⊢
    rw [Bool.and_eq_true, decide_eq_true_iff, decide_eq_true_iff] at a4 b4 ⊢
    obtain ⟨c1, c2⟩ := a4
    obtain ⟨d1, d2⟩ := b4
    rw [hlen] at d1 d2
    have e1 : s.length = q * (s.length / q) := by have := Nat.div_add_mod s.length q; omega
    have e2 : q = p * (q / p) := by have := Nat.div_add_mod q p; omega
    have e3 : s.length = p * (q / p * (s.length / q)) := by rw [← Nat.mul_assoc, ← e2]; exact e1
    refine ⟨by rw [e3]; exact Nat.mul_mod_right _ _, ?_⟩
    have e4 : s.length / p = q / p * (s.length / q) := by
      conv => lhs; rw [e3]
      exact Nat.mul_div_cancel_left _ (by omega)
    have e5 : s.take p = (s.take q).take p := by rw [List.take_take, Nat.min_eq_left b2]
    rw [e4, ← repeatL_mul, e5, d2, c2]
  have := a5 p b1 key (by omega)
  have hpq : p = q := by omega
  rw [hr, hr2, hpq]
  rw [List.take_take, Nat.min_self]
theorem rMove_idem (m : Move) : rMove (rMove m) = rMove m := by
  show (⟨root (allSteps (rMove m)), 1⟩ : Move) = _
  rw [allSteps_root, root_root]
  rfl
theorem rHand_idem (h : Hand) : rHand (rHand h) = rHand h := by
  show ({ h with Move := rMove (rMove h.Move) } : Hand) = _
  rw [rMove_idem]
  rfl
theorem redS_idem (s : Sign) : redS (redS s) = redS s := by
  cases h : s.Two
  · have e : redS s = { s with Main := rHand s.Main } := by rw [redS_eq, h]; rfl
    rw [e, redS_eq]
    simp only [h, Bool.false_eq_true, if_false]
    rw [rHand_idem]
  · have e : redS s = ⟨rHand s.Main, true, rHand s.Other⟩ := by rw [redS_eq, h]; rfl
    rw [e, redS_eq]
    simp only [if_true]
    rw [rHand_idem, rHand_idem]
theorem cmpd_idem (l : List Sign) : cmpd (cmpd l) = cmpd l := by
  have e : (cmpd l).length = l.length := cmpd_len l
  have ht : (cmpd l).take (l.length - 1) = (l.take (l.length - 1)).map redS := by
    unfold cmpd
    rw [List.take_append_of_le_length (by simp)]
    rw [List.take_of_length_le (by simp)]
  have hd : (cmpd l).drop (l.length - 1) = l.drop (l.length - 1) := by
    unfold cmpd
    rw [List.drop_append_of_le_length (by simp), List.drop_eq_nil_of_le (by simp), List.nil_append]
  have key : ∀ q : List Sign, cmpd q = (q.take (q.length - 1)).map redS ++ q.drop (q.length - 1) := fun q => rfl
  have : cmpd (cmpd l) = ((cmpd l).take (l.length - 1)).map redS ++ (cmpd l).drop (l.length - 1) := by
    rw [key (cmpd l), e]
  rw [this, ht, hd, List.map_map]
  unfold cmpd
  congr 1
  apply List.map_congr_left
  intro x _
  exact redS_idem x
theorem good_small {s : Sign} (g : gSign s = true) : smallS s := by
  refine ⟨gMove_small (gHand_iff.1 (gSign_main g)).2.2.2, ?_⟩
  cases h : s.Two
  · rw [gSign_none g h]; exact tiny_small z_tiny
  · exact gMove_small (gHand_iff.1 (gSign_other g h).1).2.2.2
/-! #### Draws -/
def smallL (l : List Sign) : Prop := ∀ x ∈ l, smallS x
theorem allT_small {l : List Sign} (h : allT l) : smallL l := fun x hx => tinyS_small (h x hx)
def cpBody (k : Nat) (c : List Int) (N : Int) : Int × Int × List Sign → Option ((Int × Int × List Sign) ⊕ (Int × Int × List Sign)) := fun ⟨n1, n2, l3⟩ => (bif decide ((List.length l3 : Int) < N) then (Option.bind (X.s_l1Cur_sign k c n1 n2) fun v4_2 => (Option.bind (appG nSign l3 ([v4_2.1] : List Sign)) fun y4_4 => some (.inl (v4_2.2.1, v4_2.2.2, y4_4)))) else some (.inr (n1, n2, l3)))
theorem cp_go {c : List Int} {k : Nat} (hc : okB8 c) (hk : 2000010 ≤ k) {n : Nat} (hn : n ≤ 30) : ∀ t s b j m, j < n → liI j b → Bg (m + 210) t → Lw m (liI (j + 1)) (cpBody k c (n : Int) (t, s, b)) := by
  intro t s l j m hj ⟨hl, e⟩ h
  subst e
  unfold cpBody
  dsimp only
  rw [decL hj, cond_true]
  refine Lw.bind (sign_ex hc h (by omega) hk) fun v t s h hv => ?_
  dsimp only
  rw [appS1 (by omega), bind_some]
  exact Lw.done h ⟨allT_app hl hv, by simp⟩ (by omega)
theorem cp_stop {c : List Int} {k n : Nat} : ∀ t s b, liI n b → cpBody k c (n : Int) (t, s, b) = some (.inr (t, s, b)) := by
  intro t s l ⟨_, e⟩
  subst e
  unfold cpBody
  dsimp only
  rw [decE, cond_false]
theorem compound_ex {c : List Int} {t s : Int} {m k : Nat} (hc : okB8 c) (h : Bg m t) (hm : 10000 ≤ m) (hk : 2000010 ≤ k) : Dw (m - 10000) (fun L : List Sign => L.length ≤ 5 ∧ allT L) (X.s_l1Cur_compound k c t s) := by
  unfold X.s_l1Cur_compound
  refine Dw.bind (among_ex hc h (by omega) (by simp)) fun v t s h hv => ?_
  refine Dw.bind (among_ex hc h (by omega) (by simp)) fun w t s h hw => ?_
  dsimp only
  have hb : 0 ≤ w ∧ w ≤ 5 := by
    simp only [List.mem_cons, List.not_mem_nil, or_false] at hv hw
    rcases hv with rfl | rfl | rfl | rfl <;> rcases hw with rfl | rfl | rfl | rfl | rfl <;> omega
  obtain ⟨n, rfl⟩ := Int.eq_ofNat_of_zero_le hb.1
  refine Dw.loop (I := liI) (n := n) (cost := 210) (m := m - 9000) (body := cpBody k c (n : Int)) (cp_go hc hk (by omega)) cp_stop ⟨fun x hx => (by cases hx), rfl⟩ (by omega) h (by omega) fun t s l h ⟨hl, e⟩ => ?_
  exact (end_ex (l := l) hc h (by omega) hk hl (by omega)).mono (by omega) fun L hL => ⟨by have := hL.1; omega, hL.2⟩
theorem compoundOf_ex {c : List Int} {k : Nat} (hc : okB8 c) (hk : 2000010 ≤ k) : ∃ L, X.s_DrawCompoundOf k c = some L ∧ L.length ≤ 5 ∧ smallL L := by
  unfold X.s_DrawCompoundOf
  obtain ⟨L, t, s, e, h, hn, hL⟩ := compound_ex (s := 0) hc Bg.start (by omega) hk
  rw [e]
  exact ⟨L, rfl, hn, allT_small hL⟩
theorem reduceDraw_ex {c : List Int} {k : Nat} (hc : okB8 c) (hk : 2000010 ≤ k) : ∃ s, X.s_DrawReduceSign k c = some s ∧ smallS s := by
  unfold X.s_DrawReduceSign
  obtain ⟨x, t, s, e, h, hx⟩ := anySign_ex (s := 0) hc Bg.start (by omega) hk
  rw [e]
  exact ⟨x, rfl, tinyS_small hx⟩
theorem isReduced_ex {c : List Int} {k : Nat} (hc : okB8 c) (hk : 2000010 ≤ k) : ∃ L, X.s_DrawIsReduced k c = some L ∧ L.length ≤ 5 ∧ smallL L := by
  unfold X.s_DrawIsReduced
  obtain ⟨L, t, s, e, h, hn, hL⟩ := compound_ex (s := 0) hc Bg.start (by omega) hk
  rw [e, bind_some]
  dsimp only
  rw [s_cmGood_eq (allT_small hL) hk, bind_some]
  cases g : gMade L
  · exact ⟨L, rfl, hn, allT_small hL⟩
  · obtain ⟨v, t, s, e, h, _⟩ := one_ex (s := s) (n := 2) hc h (by omega)
    rw [cond_true, e, bind_some]
    dsimp only
    cases v
    · exact ⟨L, rfl, hn, allT_small hL⟩
    · rw [cond_true, s_cmOf_eq (gMade_mem g) (by omega) (by omega)]
      exact ⟨_, rfl, by rw [cmpd_len]; exact hn, fun x hx => good_small (cmpd_good (gMade_mem g) x hx)⟩
theorem times_ex2 (a : Str) (ha : a.length ≤ 13) : ∀ (q : Nat) (n : Int) (acc : Str) (fu : Nat), n ≤ q → acc.length + 13 * q ≤ 60 → -9223372036854775808 ≤ n → q < fu →
    ∃ r, loopM (fun (⟨n1, t2⟩ : Int × Str) => (bif decide (n1 > 0) then (Option.bind (catS t2 a) fun y4_2 => some (.inl ((wr (n1 - 1)), y4_2))) else some (.inr t2))) fu (n, acc) = some r ∧ r.length ≤ 60 := by
  intro q
  induction q with
  | zero =>
    intro n acc fu hn hl _ hf
    obtain ⟨f, rfl⟩ : ∃ f, fu = f + 1 := ⟨fu - 1, by omega⟩
    have d : decide (n > 0) = false := decide_eq_false (by omega)
    rw [loopM_succ]
    dsimp only
    rw [d]
    exact ⟨acc, rfl, by omega⟩
  | succ q ih =>
    intro n acc fu hn hl h0 hf
    obtain ⟨f, rfl⟩ : ∃ f, fu = f + 1 := ⟨fu - 1, by omega⟩
    rw [loopM_succ]
    dsimp only
    by_cases hd : n > 0
    · rw [decide_eq_true hd, cond_true, catS_ex (by omega), bind_some, bind_some]
      dsimp only
      rw [wr_of (by omega) (by omega)]
      exact ih (n - 1) (acc ++ a) f (by omega) (by rw [List.length_append]; omega) (by omega) (by omega)
    · rw [decide_eq_false hd]
      exact ⟨acc, rfl, by omega⟩
theorem all_ex2 {m : Move} {k : Nat} (h : tinyM m) (hk : 10 ≤ k) : ∃ r, X.s_mvAll k m = some r ∧ r.length ≤ 60 := by
  unfold X.s_mvAll X.s_mvTimes
  obtain ⟨r, e, hl⟩ := times_ex2 m.Steps h.1 4 m.Repeat [] k h.2.1 (by simp) h.2.2 (by omega)
  refine ⟨r, ?_, hl⟩
  refine (congrArg (fun o => Option.bind (Option.bind o _) _) e).trans ?_
  rfl
theorem root_le (s : Str) : (root s).length ≤ s.length := by
  obtain ⟨q, e⟩ := root_take s
  rw [e, List.length_take]
  omega
theorem reduce_ex {s : Sign} {k : Nat} (h : tinyS s) (hk : 200 ≤ k) : ∃ r, X.s_cmReduce k s = some r ∧ smallS r := by
  unfold X.s_cmReduce
  obtain ⟨r, e, hl⟩ := all_ex2 (k := k) h.1 (by omega)
  have := root_le r
  rw [e, bind_some, s_cmRoot_eq (by omega) hk, bind_some]
  cases s.Two
  · exact ⟨_, rfl, by unfold small; dsimp only; omega, tiny_small h.2⟩
  · obtain ⟨r2, e2, hl2⟩ := all_ex2 (k := k) h.2 (by omega)
    have := root_le r2
    rw [cond_true, e2, bind_some, s_cmRoot_eq (by omega) hk]
    exact ⟨_, rfl, by unfold small; dsimp only; omega, by unfold small; dsimp only; omega⟩
theorem smallL_app {l : List Sign} {x : Sign} (h : smallL l) (hx : smallS x) : smallL (l ++ [x]) := fun y hy => by
  rcases List.mem_append.1 hy with h1 | h1
  · exact h y h1
  · rw [List.mem_singleton] at h1; subst h1; exact hx
theorem cmOf_ex {l : List Sign} {k : Nat} (h : allT l) (hl : l.length ≤ 50) (hk : 200 ≤ k) : ∃ r, X.s_cmOf k l = some r ∧ smallL r ∧ r.length = l.length := by
  unfold X.s_cmOf
  have key : ∀ (m : List Sign) (j : Nat) (acc : List Sign), allT m → acc.length + m.length ≤ 50 → smallL acc → ∃ r, rangeM (fun (j8 : Int) (x9 : Sign) l1 => (bif decide ((wr ((j8 : Int) + 1)) < (List.length l : Int)) then (Option.bind (X.s_cmReduce k x9) fun v6_1 => (Option.bind (appG nSign l1 ([v6_1] : List Sign)) fun y7_3 => some (.inl y7_3))) else (Option.bind (appG nSign l1 ([x9] : List Sign)) fun y7_3 => some (.inl y7_3)))) (fun l1 => some l1) m j acc = some r ∧ smallL r ∧ r.length = acc.length + m.length := by
    intro m
    induction m with
    | nil => intro j acc _ _ hs; exact ⟨acc, rfl, hs, rfl⟩
    | cons x m ih =>
      intro j acc hm hl hs
      simp only [List.length_cons] at hl
      rw [rangeM_cons]
      obtain ⟨v, e, hv⟩ := reduce_ex (hm x List.mem_cons_self) hk
      have hm2 : allT m := fun y hy => hm y (List.mem_cons_of_mem _ hy)
      cases decide ((wr ((j : Int) + 1)) < (List.length l : Int))
      · rw [cond_false, appS1 (by omega)]
        obtain ⟨r, e1, e2, e3⟩ := ih (j + 1) (acc ++ [x]) hm2 (by simp; omega) (smallL_app hs (tinyS_small (hm x List.mem_cons_self)))
        exact ⟨r, e1, e2, by rw [e3]; simp; omega⟩
      · rw [cond_true, e, bind_some, appS1 (by omega)]
        obtain ⟨r, e1, e2, e3⟩ := ih (j + 1) (acc ++ [v]) hm2 (by simp; omega) (smallL_app hs hv)
        exact ⟨r, e1, e2, by rw [e3]; simp; omega⟩
  obtain ⟨r, e1, e2, e3⟩ := key l 0 [] h (by simpa using hl) (fun x hx => by cases hx)
  rw [e1]
  exact ⟨r, rfl, e2, by rw [e3]; simp⟩
theorem pl_loop {c : List Int} (hc : okB8 c) {lex : List Sign} (hlex : allT lex) (h0 : lex ≠ []) {m : Nat} : ∀ (q fu : Nat) (t s : Int) (l : List Sign), Bg (m + 2 * q) t → allT l → l.length + q ≤ 5 → q < fu →
    ∃ t' s' l', loopM (σ := (Int × Int × Int × (List Sign))) (fun ⟨n3, n4, n5, l6⟩ => (bif decide (n3 > 0) then (Option.bind (X.s_l1Cur_pick c n4 n5 (List.length lex : Int)) fun v9_4 => (Option.bind (getI lex v9_4.1) fun y9_5 => (Option.bind (appG nSign l6 ([y9_5] : List Sign)) fun y9_8 => some (.inl ((wr (n3 - 1)), v9_4.2.1, v9_4.2.2, y9_8))))) else some (.inr (n4, n5, l6)))) fu ((q : Int), t, s, l) = some (t', s', l') ∧ Bg m t' ∧ allT l' ∧ l'.length ≤ 5 := by
  intro q
  induction q with
  | zero =>
    intro fu t s l h hl hn hf
    obtain ⟨f, rfl⟩ : ∃ f, fu = f + 1 := ⟨fu - 1, by omega⟩
    rw [loopM_succ]
    dsimp only
    rw [decide_eq_false (by omega), cond_false]
    exact ⟨t, s, l, rfl, h.le (by omega), hl, by omega⟩
  | succ q ih =>
    intro fu t s l h hl hn hf
    obtain ⟨f, rfl⟩ : ∃ f, fu = f + 1 := ⟨fu - 1, by omega⟩
    rw [loopM_succ]
    dsimp only
    rw [decide_eq_true (by omega), cond_true]
    obtain ⟨v, t2, s2, e, h2, hv⟩ := pick_ex (c := c) (t := t) (s := s) (n := (lex.length : Int)) hc h (by omega)
    obtain ⟨x, ex, hx⟩ := el_ex h0 hv
    rw [e, bind_some]
    dsimp only
    rw [ex, bind_some, appS1 (by omega), bind_some]
    have hw : wr (((q + 1 : Nat) : Int) - 1) = (q : Int) := by rw [wr_of (by omega) (by omega)]; omega
    rw [hw]
    exact ih f t2 s2 (l ++ [x]) (h2.le (by omega)) (allT_app hl (hlex x hx)) (by simp; omega) (by omega)
theorem partsOf_ex {c : List Int} {k : Nat} (hc : okB8 c) (hk : 2000010 ≤ k) : ∃ lex L, X.s_DrawPartsOfCompound k c = some (lex, L) ∧ lex.length ≤ 21 ∧ smallL lex ∧ L.length ≤ 5 ∧ smallL L := by
  unfold X.s_DrawPartsOfCompound
  obtain ⟨lex, t, s, e, h, hn, hx⟩ := signList_ex (s := 0) hc Bg.start (by omega) hk
  rw [e, bind_some]
  dsimp only
  have other : ∀ (t s : Int), Bg 20000 t → ∃ lex' L, (Option.bind (X.s_l1Cur_compound k c t s) fun v13_2 => some (lex, v13_2.1)) = some (lex', L) ∧ lex'.length ≤ 21 ∧ smallL lex' ∧ L.length ≤ 5 ∧ smallL L := by
    intro t s h
    obtain ⟨L, t, s, e, h, hL⟩ := compound_ex (s := s) hc h (by omega) hk
    rw [e]
    exact ⟨lex, L, rfl, hn, allT_small hx, hL.1, allT_small hL.2⟩
  by_cases h0 : (lex.length : Int) > 0
  · rw [decide_eq_true h0, cond_true]
    obtain ⟨v, t, s, e, h, _⟩ := one_ex (s := s) (n := 4) hc h (by omega)
    rw [e, bind_some]
    dsimp only
    cases v
    · obtain ⟨v, t, s, e, h, hv⟩ := pick_ex (s := s) (n := 2) hc h (by omega)
      rw [Bool.not_false, cond_true, e, bind_some]
      dsimp only
      obtain ⟨v, rfl⟩ := Int.eq_ofNat_of_zero_le hv.1
      rw [wr20 2 v (by omega) (by omega)]
      have hne : lex ≠ [] := fun e => by subst e; simp at h0
      obtain ⟨t, s, l, e, h, hl, hn2⟩ := pl_loop hc hx hne (m := 900000) (Int.toNat 2 + v) k t s [] (h.le (by omega)) (fun x hx => by cases hx) (by simp; omega) (by omega)
      rw [e, bind_some]
      dsimp only
      obtain ⟨v, t, s, e, h, _⟩ := one_ex (s := s) (n := 5) hc h (by omega)
      rw [e, bind_some]
      dsimp only
      cases v
      · obtain ⟨r, e, h1, h2⟩ := cmOf_ex (k := k) hl (by omega) (by omega)
        rw [cond_false, e]
        exact ⟨lex, r, rfl, hn, allT_small hx, by omega, h1⟩
      · exact ⟨lex, l, rfl, hn, allT_small hx, hn2, allT_small hl⟩
    · exact other _ _ (h.le (by omega))
  · rw [decide_eq_false h0]
    exact other _ _ (h.le (by omega))
/-! #### The law -/
theorem qSign_refl (x : Sign) : qSign x x = true := by rw [qSign_iff]; simp
theorem qSigns_refl (l : List Sign) : X.l_qSigns l l = some true := by
  unfold X.l_qSigns
  rw [bne_self_eq_false, cond_false, range_all0 l]
  · rfl
  · intro i x hx
    rw [getI_of hx, bind_some, qSign_refl]
    rfl
def agree : List Sign → List Sign → Bool
  | x :: l, y :: m => decide (x = y) && agree l m
  | _, _ => true
theorem agree_eq : ∀ a b : List Sign, (agree a b && decide (a.length = b.length)) = decide (a = b)
  | [], [] => rfl
  | [], y :: b => rfl
  | x :: a, [] => by simp [agree]
  | x :: a, y :: b => by
    have ih := agree_eq a b
    rw [agree, Bool.and_assoc]
    have e : decide ((x :: a).length = (y :: b).length) = decide (a.length = b.length) := by simp
    rw [e, ih, Bool.eq_iff_iff]
    simp
theorem agree_gen (b : List Sign) : ∀ (l : List Sign) (j : Nat), rangeM (fun (j2 : Int) (x3 : Sign) (_ : Unit) => (bif decide ((j2 : Int) < (List.length b : Int)) then (Option.bind (getI b (j2 : Int)) fun y4_8 => (bif (!qSign x3 y4_8) then some (.inr (Sum.inl false)) else some (.inl ()))) else some (.inl ()))) (fun _ => some (.inr ())) l j () = some (if agree l (b.drop j) then Sum.inr () else Sum.inl false)
  | [], j => by simp [rangeM_nil, agree]
  | x :: l, j => by
    rw [rangeM_cons]
    have ih := agree_gen b l (j + 1)
    rcases Nat.lt_or_ge j b.length with h | h
    · obtain ⟨y, hy⟩ : ∃ y, b[j]? = some y := ⟨b[j], List.getElem?_eq_getElem h⟩
      have hd : b.drop j = y :: b.drop (j + 1) := by
        rw [List.drop_eq_getElem_cons h]
        rw [List.getElem?_eq_getElem h] at hy
        rw [Option.some.inj hy]
      rw [decL h, cond_true, getI_of hy, bind_some, hd, agree, qSign_iff]
      by_cases hxy : x = y
      · rw [decide_eq_true hxy]
        simp only [Bool.not_true, cond_false, bind_some, Bool.true_and]
        exact ih
      · rw [decide_eq_false hxy]
        rfl
    · have e1 : b.drop j = [] := List.drop_eq_nil_of_le h
      have e2 : b.drop (j + 1) = [] := List.drop_eq_nil_of_le (by omega)
      rw [decide_eq_false (by omega), cond_false, bind_some]
      dsimp only
      rw [ih, e1, e2]
      cases l <;> rfl
theorem cmSame_eq (a b : List Sign) : X.s_cmSame a b = some (decide (a = b)) := by
  unfold X.s_cmSame
  rw [agree_gen b a 0, List.drop_zero, ← agree_eq]
  cases agree a b
  · rfl
  · simp only [if_true, Bool.true_and]
    show some _ = some _
    congr 1
    rw [beq_dec, decide_eq_decide]
    omega
theorem equal_eq (a b : List Sign) : X.slices_Equal_i_Sign_i_Sign a b = some (decide (a = b)) := by
  unfold X.slices_Equal_i_Sign_i_Sign
  by_cases h : a.length = b.length
  · rw [h, bne_self_eq_false, cond_false]
    rw [rangeM_congr (b2 := fun (j2 : Int) (x3 : Sign) (_ : Unit) => (bif decide ((j2 : Int) < (List.length b : Int)) then (Option.bind (getI b (j2 : Int)) fun y4_8 => (bif (!qSign x3 y4_8) then some (.inr (Sum.inl false)) else some (.inl ()))) else some (.inl ()))) a 0 () fun i x s hx => ?_]
    · rw [agree_gen b a 0, List.drop_zero, ← agree_eq, decide_eq_true h, Bool.and_true]
      cases agree a b <;> rfl
    · have := some_len hx
      rw [Nat.zero_add, decL (by omega), cond_true]
  · have e : ((a.length : Int) != (b.length : Int)) = true := by rw [bne_iff_ne]; omega
    rw [e, cond_true]
    congr 1
    rw [eq_comm, decide_eq_false_iff_not]
    exact fun e => h (by rw [e])
def vRed (s : Sign) : Sign × Bool := if gSign s = true then (redS s, true) else (zSign, false)
theorem i_Red_eq {k : Nat} {s : Sign} (hs : smallS s) (hk : 2000010 ≤ k) : X.i_ReduceSign k s = some (vRed s) := by
  unfold X.i_ReduceSign vRed
  rw [i_IsSign_eq hs (by omega), bind_some]
  cases g : gSign s
  · rfl
  · simp only [Bool.not_true, cond_false, if_true]
    rw [i_reduced_eq g (by omega)]
    rfl
theorem s_Red_eq {k : Nat} {s : Sign} (hs : smallS s) (hk : 2000010 ≤ k) : X.s_ReduceSign k s = some (vRed s) := by
  unfold X.s_ReduceSign vRed
  rw [s_siGood_eq hs hk, bind_some]
  cases g : gSign s
  · rfl
  · simp only [Bool.not_true, cond_false, if_true]
    rw [s_reduce_eq g (by omega)]
    rfl
def vIsRed (l : List Sign) : Bool × Bool := if gMade l = true then (decide (cmpd l = l), true) else (false, false)
theorem i_IsRed_eq {k : Nat} {l : List Sign} (hs : smallL l) (hk : 2000010 ≤ k) : X.i_IsReduced k l = some (vIsRed l) := by
  unfold X.i_IsReduced vIsRed
  rw [i_isMade_eq hs (by omega), bind_some]
  cases g : gMade l
  · rfl
  · have := gMade_len g
    simp only [Bool.not_true, cond_false, if_true]
    rw [i_compound_eq (gMade_mem g) (by omega) (by omega) (by omega), bind_some, equal_eq]
    rfl
theorem s_IsRed_eq {k : Nat} {l : List Sign} (hs : smallL l) (hk : 2000010 ≤ k) : X.s_IsReduced k l = some (vIsRed l) := by
  unfold X.s_IsReduced vIsRed
  rw [s_cmGood_eq hs hk, bind_some]
  cases g : gMade l
  · rfl
  · have := gMade_len g
    simp only [Bool.not_true, cond_false, if_true]
    rw [s_cmOf_eq (gMade_mem g) (by omega) (by omega), bind_some, cmSame_eq]
    rfl
theorem gMade_cmpd {l : List Sign} (g : gMade l = true) : gMade (cmpd l) = true := by
  have h1 := gMade_len g
  have h2 := cmpd_good (gMade_mem g)
  unfold gMade
  rw [cmpd_len, decide_eq_true h1, Bool.true_and, List.all_eq_true]
  exact h2
theorem cmpd_last {l : List Sign} (h : 1 ≤ l.length) : (cmpd l)[l.length - 1]? = l[l.length - 1]? := by
  unfold cmpd
  rw [List.getElem?_append_right (by simp), List.getElem?_drop]
  congr 1
  simp
theorem fst_get {α : Type} (p : α → Bool) : ∀ (l : List α) (j : Nat), fst_ p l j (-1) = -1 ∨ ∃ (i : Nat) (x : α), l[i]? = some x ∧ p x = true ∧ fst_ p l j (-1) = ((j + i : Nat) : Int)
  | [], j => .inl rfl
  | x :: l, j => by
    unfold fst_
    cases h : p x
    · simp only [Bool.false_eq_true, if_false]
      rcases fst_get p l (j + 1) with h1 | ⟨i, y, h1, h2, h3⟩
      · exact .inl h1
      · exact .inr ⟨i + 1, y, h1, h2, by rw [h3, Nat.add_assoc, Nat.add_comm 1 i]⟩
    · exact .inr ⟨0, x, rfl, h, rfl⟩
theorem appI1 {l : List Int} {x : Int} (h : l.length ≤ 100) : appG (eI .i64) l [x] = some (l ++ [x]) := appI (by omega)
def prt (n : Nat) (j : Nat) (x : Sign) : Sign := if j + 1 < n then redS x else x
theorem parts_ok (lex : List Sign) (n : Nat) : ∀ (l : List Sign) (j : Nat) (acc : List Int), acc.length + l.length ≤ 50 →
    rangeM (bPart lex n) (fun l3 => some (.inr l3)) l j acc = some (.inl ([], false)) ∨ ∃ ps : List (Int × Sign), rangeM (bPart lex n) (fun l3 => some (.inr l3)) l j acc = some (.inr (acc ++ ps.map Prod.fst)) ∧ (∀ p ∈ ps, getI lex p.1 = some p.2 ∧ p.2 ∈ lex) ∧ mapG (prt n) (ps.map Prod.snd) j = l
  | [], j, acc, _ => .inr ⟨[], by rw [rangeM_nil, List.map_nil, List.append_nil], (fun p hp => by cases hp), rfl⟩
  | x :: l, j, acc, h => by
    simp only [List.length_cons] at h
    rw [rangeM_cons]
    rcases fst_get (pPart n (j : Int) x) lex 0 with h1 | ⟨i, y, h1, h2, h3⟩
    · left
      unfold bPart
      rw [h1, if_pos (by omega)]
      rfl
    · have hb : bPart lex n (j : Int) x acc = some (.inl (acc ++ [(i : Int)])) := by
        unfold bPart
        rw [h3, Nat.zero_add, if_neg (by omega), appI1 (by omega)]
        rfl
      rw [hb]
      rcases parts_ok lex n l (j + 1) (acc ++ [(i : Int)]) (by simp; omega) with h4 | ⟨ps, h4, h5, h6⟩
      · exact .inl h4
      · refine .inr ⟨((i : Int), y) :: ps, by rw [bind_some]; dsimp only; rw [h4]; simp, fun p hp => ?_, ?_⟩
        · rcases List.mem_cons.1 hp with rfl | hp
          · exact ⟨getI_of h1, List.mem_of_getElem? h1⟩
          · exact h5 p hp
        · rw [List.map_cons, mapG, h6]
          congr 1
          unfold pPart at h2
          unfold prt
          by_cases hj : j + 1 < n
          · rw [if_pos (by omega), decide_eq_true_iff] at h2
            rw [if_pos hj]
            exact h2
          · rw [if_neg (by omega), decide_eq_true_iff] at h2
            rw [if_neg hj]
            exact h2
theorem collect (lex : List Sign) : ∀ (ps : List (Int × Sign)) (j : Nat) (acc : List Sign), (∀ p ∈ ps, getI lex p.1 = some p.2) → acc.length + ps.length ≤ 50 → rangeM (fun (j35 : Int) (x36 : Int) l28 => (Option.bind (getI lex x36) fun y30_3 => (Option.bind (appG nSign l28 ([y30_3] : List Sign)) fun y30_6 => some (.inl y30_6)))) (fun l28 => some l28) (ps.map Prod.fst) j acc = some (acc ++ ps.map Prod.snd)
  | [], j, acc, _, _ => by simp [rangeM_nil]
  | p :: ps, j, acc, h, hl => by
    simp only [List.length_cons] at hl
    rw [List.map_cons, rangeM_cons, h p List.mem_cons_self, bind_some, appS1 (by omega), bind_some, bind_some]
    dsimp only
    rw [collect lex ps (j + 1) (acc ++ [p.2]) (fun q hq => h q (List.mem_cons_of_mem _ hq)) (by simp; omega)]
    simp
theorem Pure.FnCompounds (c : List Int) (o_c : okL okY c) (d : List Int) (o_d : okL okY d) : X.l_FnCompounds 3000000 c d = some true := by
  have hc := okB8_of o_c
  have hd := okB8_of o_d
  unfold X.l_FnCompounds
  cases decide ((wr ((List.length c : Int) + (List.length d : Int))) > 1048576) with
  | true => rfl
  | false =>
  rw [cond_false]
  obtain ⟨C, e, hn, hC⟩ := compoundOf_ex (k := 3000000) hc (by omega)
  rw [e, bind_some, i_CompoundOf_eq hC (by omega), bind_some, s_CompoundOf_eq hC (by omega), bind_some]
  obtain ⟨s, e, hs⟩ := reduceDraw_ex (k := 3000000) hd (by omega)
  rw [e, bind_some, i_Red_eq hs (by omega), bind_some, s_Red_eq hs (by omega), bind_some]
  obtain ⟨lex, L, e, hnx, hx, hnL, hL⟩ := partsOf_ex (k := 3000000) hd (by omega)
  rw [e, bind_some]
  dsimp only
  rw [i_PartsOf_eq hx hL (by omega) (by omega), s_PartsOf_eq hx hL (by omega) (by omega)]
  have hpar : vParts lex L = some ([], false) ∨ ∃ ps : List (Int × Sign), vParts lex L = some (ps.map Prod.fst, true) ∧ (∀ p ∈ ps, getI lex p.1 = some p.2 ∧ p.2 ∈ lex) ∧ mapG (prt L.length) (ps.map Prod.snd) 0 = L ∧ (∀ s ∈ lex, gSign s = true) ∧ gMade L = true := by
    unfold vParts
    by_cases g : (lex.all gSign && decide (lex.length ≤ 20) && gMade L) = true
    · rw [if_pos g]
      rcases parts_ok lex L.length L 0 [] (by simp; omega) with h1 | ⟨ps, h1, h2, h3⟩
      · left
        rw [h1]
        rfl
      · right
        rw [Bool.and_eq_true, Bool.and_eq_true, List.all_eq_true] at g
        refine ⟨ps, ?_, h2, h3, g.1.1, g.2⟩
        rw [h1]
        rfl
    · rw [if_neg g]
      exact .inl rfl
  obtain ⟨P, eP⟩ : ∃ P, vParts lex L = some P := by
    rcases hpar with h1 | ⟨ps, h1, _⟩
    · exact ⟨_, h1⟩
    · exact ⟨_, h1⟩
  rw [eP, bind_some, bind_some]
  obtain ⟨B, e, hnB, hB⟩ := isReduced_ex (k := 3000000) hd (by omega)
  rw [e, bind_some, i_IsRed_eq hB (by omega), bind_some, s_IsRed_eq hB (by omega), bind_some]
  refine bindB (v := false) ?_ ?_
  · simp only [beq_self_eq_true, Bool.not_true, cond_false, qSigns_refl, qInts_refl, qSign_refl, bind_some]
    rw [i_IsSign_eq hs (by omega), bind_some]
    unfold vRed
    cases gSign s <;> rfl
  rw [cond_false]
  refine orElB (v := ()) ?_ ?_
  · unfold vCmpd
    cases g : gMade C
    · rfl
    · have hl := gMade_len g
      have g2 := gMade_cmpd g
      have hsm : smallL (cmpd C) := fun x hx => good_small (cmpd_good (gMade_mem g) x hx)
      simp only [if_true, cond_true]
      rw [i_IsRed_eq hsm (by omega), bind_some]
      unfold vIsRed
      rw [if_pos g2, decide_eq_true (cmpd_idem C), cmpd_len]
      simp only [Bool.not_true, cond_false, bne_self_eq_false]
      have hw : wr ((C.length : Int) - 1) = ((C.length - 1 : Nat) : Int) := by rw [wr_of (by omega) (by omega)]; omega
      have hlt : C.length - 1 < C.length := by omega
      obtain ⟨z, hz⟩ : ∃ z, C[C.length - 1]? = some z := ⟨C[C.length - 1], List.getElem?_eq_getElem hlt⟩
      have hz2 : (cmpd C)[C.length - 1]? = some z := by rw [cmpd_last (by omega), hz]
      rw [hw, getI_of hz2, bind_some, getI_of hz, bind_some, qSign_refl]
      rfl
  refine orElB (v := ()) ?_ ?_
  · cases g : gSign s
    · unfold vRed
      rw [g]
      rfl
    · have e1 : vRed s = (redS s, true) := by unfold vRed; rw [if_pos g]
      have g2 := gSign_red g
      have e2 : vRed (redS s) = (redS s, true) := by unfold vRed; rw [if_pos g2, redS_idem]
      have e3 : (redS s).Main.Move.Repeat = 1 := by rw [redS_eq]; cases s.Two <;> rfl
      rw [e1]
      dsimp only
      rw [cond_true, i_Red_eq (good_small g2) (by omega), bind_some, e2]
      dsimp only
      rw [Bool.not_true, cond_false, qSign_refl, Bool.not_true, cond_false, i_IsSign_eq (good_small g2) (by omega), bind_some, g2, e3]
      rfl
  rcases hpar with h1 | ⟨ps, h1, h2, h3, h4, h5⟩
  · rw [eP] at h1
    cases h1
    rfl
  · rw [eP] at h1
    cases h1
    have hlen := congrArg List.length h3
    rw [mapG_len, List.length_map] at hlen
    dsimp only
    rw [cond_true, collect lex ps 0 [] (fun p hp => (h2 p hp).1) (by simp; omega), bind_some, List.nil_append]
    have hg : ∀ y ∈ ps.map Prod.snd, gSign y = true := fun y hy => by
      obtain ⟨p, hp, rfl⟩ := List.mem_map.1 hy
      exact h4 _ (h2 p hp).2
    have hsm : smallL (ps.map Prod.snd) := fun y hy => good_small (hg y hy)
    have hml := gMade_len h5
    have hgm : gMade (ps.map Prod.snd) = true := by
      unfold gMade
      rw [List.length_map, hlen, decide_eq_true hml, Bool.true_and, List.all_eq_true]
      exact hg
    have hcm : cmpd (ps.map Prod.snd) = L := by
      have := mapG_cut (ps.map Prod.snd).length (ps.map Prod.snd) 0 (by omega)
      unfold cmpd
      rw [← this, List.length_map, hlen]
      exact h3
    rw [i_CompoundOf_eq hsm (by omega), bind_some]
    unfold vCmpd
    rw [if_pos hgm, hcm]
    dsimp only
    rw [cond_true, qSigns_refl]
    rfl
end Go.Proofs.XC
