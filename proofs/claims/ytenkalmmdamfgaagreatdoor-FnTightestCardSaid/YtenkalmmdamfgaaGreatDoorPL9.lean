/- Plain laws of the plain functions: no program, no memory. By AI agents; no person has read it. -/
import Derived.Test.YtenkalmmdamfgaaGreatDoorPL6
import Derived.Test.YtenkalmmdamfgaaGreatDoorPQ4
set_option linter.unusedVariables false
set_option linter.unusedSimpArgs false
set_option maxRecDepth 100000
set_option maxHeartbeats 40000000
namespace Go.Proofs.XC
open Go Go.RowKit
/-! ### Drawn constraints -/
theorem ruMost_ex {z : Int} (h : 0 ≤ z ∧ (z < 5 ∨ z = 0)) : ∃ v, X.s_ruMost z = some v ∧ 0 ≤ v ∧ v ≤ 18 := by
  obtain ⟨h0, h1⟩ := h
  have : z = 0 ∨ z = 1 ∨ z = 2 ∨ z = 3 ∨ z = 4 := by omega
  rcases this with rfl | rfl | rfl | rfl | rfl
  · exact ⟨18, rfl, by omega, by omega⟩
  · exact ⟨9, rfl, by omega, by omega⟩
  · exact ⟨4, rfl, by omega, by omega⟩
  · exact ⟨3, rfl, by omega, by omega⟩
  · exact ⟨9, rfl, by omega, by omega⟩
theorem conTail {c : List Int} {t s : Int} {m : Nat} {z u : Int} (hc : okB8 c) (hz : 0 ≤ z ∧ (z < 5 ∨ z = 0)) (h : Bg m t) (hm : 4 ≤ m) : Dw (m - 4) (fun _ : Constraint => True) (Option.bind (X.s_l1Cur_pick c t s 40) fun v7_1 => (bif (v7_1.1 == 0) then (Option.bind (X.s_l1Cur_among c v7_1.2.1 v7_1.2.2 ([(-1), 5] : List Int)) fun v9_2 => some ((⟨v9_2.1, u⟩ : Constraint), v9_2.2.1, v9_2.2.2)) else (bif (v7_1.1 == 1) then (Option.bind (X.s_ruMost z) fun v11_2 => (Option.bind (X.s_l1Cur_among c v7_1.2.1 v7_1.2.2 ([(-1), (wr (v11_2 + 1)), (-9223372036854775808)] : List Int)) fun v11_5 => some ((⟨z, v11_5.1⟩ : Constraint), v11_5.2.1, v11_5.2.2))) else some ((⟨z, u⟩ : Constraint), v7_1.2.1, v7_1.2.2)))) := by
  refine Dw.bind (pick_ex hc h (by omega)) fun v t s h _ => ?_
  dsimp only
  refine Dw.cond (fun _ => ?_) (fun _ => Dw.cond (fun _ => ?_) (fun _ => Dw.done h trivial (by omega)))
  · exact Dw.bind (among_ex hc h (by omega) (by simp)) fun v t s h _ => Dw.done h trivial (by omega)
  · exact Dw.pure (ruMost_ex hz) fun v _ => Dw.bind (among_ex hc h (by omega) (by simp)) fun v t s h _ => Dw.done h trivial (by omega)
theorem constraint_ex {c : List Int} {t s : Int} {m : Nat} (hc : okB8 c) (h : Bg m t) (hm : 20 ≤ m) : Dw (m - 20) (fun _ : Constraint => True) (X.s_l1Cur_constraint c t s) := by
  unfold X.s_l1Cur_constraint
  refine Dw.bind (pick_ex hc h (by omega)) fun z t s h hz => ?_
  dsimp only
  refine Dw.pure (ruMost_ex hz) fun w _ => ?_
  refine Dw.bind (pick_ex hc h (by omega)) fun v t s h _ => ?_
  dsimp only
  have tl : ∀ (u t s : Int) (m' : Nat), Bg m' t → m - 16 ≤ m' → Dw (m - 20) (fun _ : Constraint => True) (Option.bind (X.s_l1Cur_pick c t s 40) fun v7_1 => (bif (v7_1.1 == 0) then (Option.bind (X.s_l1Cur_among c v7_1.2.1 v7_1.2.2 ([(-1), 5] : List Int)) fun v9_2 => some ((⟨v9_2.1, u⟩ : Constraint), v9_2.2.1, v9_2.2.2)) else (bif (v7_1.1 == 1) then (Option.bind (X.s_ruMost z) fun v11_2 => (Option.bind (X.s_l1Cur_among c v7_1.2.1 v7_1.2.2 ([(-1), (wr (v11_2 + 1)), (-9223372036854775808)] : List Int)) fun v11_5 => some ((⟨z, v11_5.1⟩ : Constraint), v11_5.2.1, v11_5.2.2))) else some ((⟨z, u⟩ : Constraint), v7_1.2.1, v7_1.2.2)))) := fun u t s m' h hm' => (conTail hc hz h (by omega)).mono (by omega) fun _ h => h
  have mid : ∀ (u t s : Int) (m' : Nat), Bg m' t → m - 10 ≤ m' → Dw (m - 20) (fun _ : Constraint => True) (bif (z == 0) then (Option.bind (X.s_l1Cur_one c t s 2) fun v5_4 => (bif v5_4.1 then (Option.bind (X.s_l1Cur_pick c v5_4.2.1 v5_4.2.2 5) fun v6_1 => (Option.bind (X.s_l1Cur_pick c v6_1.2.1 v6_1.2.2 40) fun v7_1 => (bif (v7_1.1 == 0) then (Option.bind (X.s_l1Cur_among c v7_1.2.1 v7_1.2.2 ([(-1), 5] : List Int)) fun v9_2 => some ((⟨v9_2.1, v6_1.1⟩ : Constraint), v9_2.2.1, v9_2.2.2)) else (bif (v7_1.1 == 1) then (Option.bind (X.s_ruMost z) fun v11_2 => (Option.bind (X.s_l1Cur_among c v7_1.2.1 v7_1.2.2 ([(-1), (wr (v11_2 + 1)), (-9223372036854775808)] : List Int)) fun v11_5 => some ((⟨z, v11_5.1⟩ : Constraint), v11_5.2.1, v11_5.2.2))) else some ((⟨z, v6_1.1⟩ : Constraint), v7_1.2.1, v7_1.2.2))))) else (Option.bind (X.s_l1Cur_pick c v5_4.2.1 v5_4.2.2 40) fun v7_1 => (bif (v7_1.1 == 0) then (Option.bind (X.s_l1Cur_among c v7_1.2.1 v7_1.2.2 ([(-1), 5] : List Int)) fun v9_2 => some ((⟨v9_2.1, u⟩ : Constraint), v9_2.2.1, v9_2.2.2)) else (bif (v7_1.1 == 1) then (Option.bind (X.s_ruMost z) fun v11_2 => (Option.bind (X.s_l1Cur_among c v7_1.2.1 v7_1.2.2 ([(-1), (wr (v11_2 + 1)), (-9223372036854775808)] : List Int)) fun v11_5 => some ((⟨z, v11_5.1⟩ : Constraint), v11_5.2.1, v11_5.2.2))) else some ((⟨z, u⟩ : Constraint), v7_1.2.1, v7_1.2.2)))))) else (Option.bind (X.s_l1Cur_pick c t s 40) fun v7_1 => (bif (v7_1.1 == 0) then (Option.bind (X.s_l1Cur_among c v7_1.2.1 v7_1.2.2 ([(-1), 5] : List Int)) fun v9_2 => some ((⟨v9_2.1, u⟩ : Constraint), v9_2.2.1, v9_2.2.2)) else (bif (v7_1.1 == 1) then (Option.bind (X.s_ruMost z) fun v11_2 => (Option.bind (X.s_l1Cur_among c v7_1.2.1 v7_1.2.2 ([(-1), (wr (v11_2 + 1)), (-9223372036854775808)] : List Int)) fun v11_5 => some ((⟨z, v11_5.1⟩ : Constraint), v11_5.2.1, v11_5.2.2))) else some ((⟨z, u⟩ : Constraint), v7_1.2.1, v7_1.2.2))))) := by
    intro u t s m' h hm'
    refine Dw.cond (fun _ => ?_) (fun _ => tl _ _ _ _ h (by omega))
    refine Dw.bind (one_ex hc h (by omega)) fun v t s h _ => ?_
    dsimp only
    refine Dw.cond (fun _ => ?_) (fun _ => tl _ _ _ _ h (by omega))
    refine Dw.bind (pick_ex hc h (by omega)) fun v t s h _ => ?_
    exact tl _ _ _ _ h (by omega)
  refine Dw.cond (fun _ => Dw.cond (fun _ => ?_) (fun _ => ?_)) (fun _ => ?_)
  · exact mid _ _ _ _ h (by omega)
  · exact mid _ _ _ _ h (by omega)
  · exact mid _ _ _ _ h (by omega)
theorem appC1 {l : List Constraint} {x : Constraint} (h : l.length ≤ 100) : appG nConstraint l [x] = some (l ++ [x]) := by
  unfold appG
  have hby : nConstraint.by_ = 16 := rfl
  rw [if_pos]
  rw [hby]
  simp only [List.length_cons, List.length_nil]
  omega
def csI (j : Nat) (l : List Constraint) : Prop := l.length = j
theorem csI0 : csI 0 [] := rfl
def csBody (c : List Int) (N : Int) : Int × Int × List Constraint → Option ((Int × Int × List Constraint) ⊕ (Int × Int × List Constraint)) := fun ⟨n2, n3, l4⟩ => (bif decide ((List.length l4 : Int) < N) then (Option.bind (X.s_l1Cur_constraint c n2 n3) fun v6_2 => (Option.bind (appG nConstraint l4 ([v6_2.1] : List Constraint)) fun y6_4 => (bif decide ((List.length y6_4 : Int) > 1) then (Option.bind (X.s_l1Cur_one c v6_2.2.1 v6_2.2.2 3) fun v8_4 => (bif v8_4.1 then (Option.bind (X.s_l1Cur_pick c v8_4.2.1 v8_4.2.2 (wr ((List.length y6_4 : Int) - 1))) fun v9_7 => (Option.bind (getI y6_4 v9_7.1) fun y9_8 => (Option.bind (getI y6_4 (wr ((List.length y6_4 : Int) - 1))) fun y9_10 => some (.inl (v9_7.2.1, v9_7.2.2, (List.set y6_4 (Int.toNat (wr ((List.length y6_4 : Int) - 1))) y9_8)))))) else some (.inl (v8_4.2.1, v8_4.2.2, y6_4)))) else some (.inl (v6_2.2.1, v6_2.2.2, y6_4))))) else some (.inr (n2, n3, l4)))
theorem getA {α : Type} {l : List α} {z : Int} (h1 : 0 ≤ z) (h2 : z < (l.length : Int)) : ∃ x, getI l z = some x ∧ True := by
  obtain ⟨x, e, hx⟩ := el_ex (l := l) (v := z) (by intro e; subst e; simp at h2; omega) ⟨h1, .inl h2⟩
  exact ⟨x, e, trivial⟩
theorem cs_go {c : List Int} (hc : okB8 c) {n : Nat} (hn : n ≤ 30) : ∀ t s b j m, j < n → csI j b → Bg (m + 30) t → Lw m (csI (j + 1)) (csBody c (n : Int) (t, s, b)) := by
  intro t s l j m hj e h
  unfold csI at e
  subst e
  unfold csBody
  dsimp only
  rw [decL hj, cond_true]
  refine Lw.bind (constraint_ex hc h (by omega)) fun v t s h _ => ?_
  dsimp only
  rw [appC1 (by omega), bind_some]
  have hlen : (l ++ [v]).length = l.length + 1 := by simp
  generalize l ++ [v] = y at hlen
  refine Lw.cond (fun hd => ?_) (fun _ => Lw.done h hlen (by omega))
  have hd := of_decide_eq_true hd
  have w1 : wr ((y.length : Int) - 1) = (y.length : Int) - 1 := wr_of (by omega) (by omega)
  refine Lw.bind (one_ex hc h (by omega)) fun v2 t s h _ => ?_
  dsimp only
  refine Lw.cond (fun _ => ?_) (fun _ => Lw.done h hlen (by omega))
  rw [w1]
  refine Lw.bind (pick_ex hc h (by omega)) fun v3 t s h hv => ?_
  dsimp only
  refine Lw.pure (getA hv.1 (by omega)) fun x _ => ?_
  refine Lw.pure (getA (l := y) (z := (y.length : Int) - 1) (by omega) (by omega)) fun z _ => ?_
  exact Lw.done h (by unfold csI; rw [List.length_set, hlen]) (by omega)
theorem cs_stop {c : List Int} {n : Nat} : ∀ t s b, csI n b → csBody c (n : Int) (t, s, b) = some (.inr (t, s, b)) := by
  intro t s l e
  unfold csI at e
  subst e
  unfold csBody
  dsimp only
  rw [decE, cond_false]
theorem constraints_ex {c : List Int} {t s : Int} {m k : Nat} (hc : okB8 c) (h : Bg m t) (hm : 1000 ≤ m) (hk : 2000010 ≤ k) : Dw (m - 1000) (fun L : List Constraint => L.length ≤ 11) (X.s_l1Cur_constraints k c t s) := by
  unfold X.s_l1Cur_constraints
  refine Dw.bind (pick_ex hc h (by omega)) fun n t s h hn => ?_
  refine Dw.bind (one_ex hc h (by omega)) fun v t s h _ => ?_
  dsimp only
  refine Dw.cond (fun _ => ?_) (fun _ => ?_)
  · refine Dw.bind (pick_ex hc h (by omega)) fun q t s h hq => ?_
    dsimp only
    obtain ⟨q, rfl⟩ := Int.eq_ofNat_of_zero_le hq.1
    rw [wr20 10 q (by omega) (by omega)]
    refine Dw.loop (I := csI) (n := 10 + q) (cost := 30) (m := m - 900) (body := csBody c ((10 + q : Nat) : Int)) (cs_go hc (by omega)) cs_stop csI0 (by omega) h (by omega) fun t s l h e => ?_
    have e : l.length = _ := e
    exact Dw.done h (show l.length ≤ 11 by omega) (by omega)
  · obtain ⟨n, rfl⟩ := Int.eq_ofNat_of_zero_le hn.1
    refine Dw.loop (I := csI) (n := n) (cost := 30) (m := m - 900) (body := csBody c (n : Int)) (cs_go hc (by omega)) cs_stop csI0 (by omega) h (by omega) fun t s l h e => ?_
    have e : l.length = _ := e
    exact Dw.done h (show l.length ≤ 11 by omega) (by omega)
theorem lawful_ex {c : List Int} {k : Nat} (hc : okB8 c) (hk : 2000010 ≤ k) : ∃ L Q, X.s_DrawLawfulSigns k c = some (L, Q) ∧ L.length ≤ 21 ∧ allT L ∧ Q.length ≤ 11 := by
  unfold X.s_DrawLawfulSigns
  obtain ⟨L, t, s, e, h, hn, hL⟩ := signList_ex (s := 0) hc Bg.start (by omega) hk
  rw [e, bind_some]
  dsimp only
  obtain ⟨Q, t, s, e, h, hQ⟩ := constraints_ex (s := s) hc h (by omega) hk
  rw [e]
  exact ⟨L, Q, rfl, hn, hL, hQ⟩
theorem mostBroken_ex {c : List Int} {k : Nat} (hc : okB8 c) (hk : 2000010 ≤ k) : ∃ L Q, X.s_DrawMostBroken k c = some (L, Q) ∧ L.length ≤ 21 ∧ allT L ∧ Q.length ≤ 11 := by
  unfold X.s_DrawMostBroken
  obtain ⟨L, Q, e, h⟩ := lawful_ex hc hk
  rw [e]
  exact ⟨L, Q, rfl, h⟩
theorem needDraw_ex {c : List Int} {k : Nat} (hc : okB8 c) (hk : 2000010 ≤ k) : ∃ Q, X.s_DrawNeedlessConstraints k c = some Q ∧ Q.length ≤ 11 := by
  unfold X.s_DrawNeedlessConstraints
  obtain ⟨Q, t, s, e, h, hQ⟩ := constraints_ex (s := 0) hc Bg.start (by omega) hk
  rw [e]
  exact ⟨Q, rfl, hQ⟩
theorem tightDraw_ex {c : List Int} {k : Nat} (hc : okB8 c) (hk : 2000010 ≤ k) : ∃ L, X.s_DrawTightestSteps k c = some L ∧ L.length ≤ 21 ∧ allT L := by
  unfold X.s_DrawTightestSteps X.s_DrawSignsText
  obtain ⟨L, t, s, e, h, hL⟩ := signList_ex (s := 0) hc Bg.start (by omega) hk
  rw [e]
  exact ⟨L, rfl, hL⟩
/-! ### Most and least -/
theorem range_fold {α σ ρ : Type} {body : Int → α → σ → Option (σ ⊕ ρ)} {fin : σ → Option ρ} (g : σ → α → σ) : ∀ (l : List α) (j : Nat) (s : σ), (∀ x ∈ l, ∀ (i : Int) s, body i x s = some (.inl (g s x))) → rangeM body fin l j s = fin (l.foldl g s)
  | [], j, s, _ => rfl
  | x :: l, j, s, h => by
    rw [rangeM_cons, h x List.mem_cons_self]
    exact range_fold g l (j + 1) _ fun y hy => h y (List.mem_cons_of_mem _ hy)
def gMx (f : Sign → Int) (n : Int) (s : Sign) : Int := if f s > n then f s else n
def gMn (f : Sign → Int) (n : Int) (s : Sign) : Int := if f s < n then f s else n
theorem mx_spec (f : Sign → Int) : ∀ (l : List Sign) (n : Int), n ≤ l.foldl (gMx f) n ∧ (∀ x ∈ l, f x ≤ l.foldl (gMx f) n) ∧ (l.foldl (gMx f) n = n ∨ ∃ x ∈ l, l.foldl (gMx f) n = f x)
  | [], n => ⟨Int.le_refl _, (fun x hx => by cases hx), .inl rfl⟩
  | x :: l, n => by
    obtain ⟨a1, a2, a3⟩ := mx_spec f l (gMx f n x)
    rw [List.foldl_cons]
    have hg : n ≤ gMx f n x ∧ f x ≤ gMx f n x ∧ (gMx f n x = n ∨ gMx f n x = f x) := by
      unfold gMx
      by_cases h : f x > n
      · rw [if_pos h]; exact ⟨by omega, Int.le_refl _, .inr rfl⟩
      · rw [if_neg h]; exact ⟨Int.le_refl _, by omega, .inl rfl⟩
    refine ⟨by omega, fun y hy => ?_, ?_⟩
    · rcases List.mem_cons.1 hy with rfl | hy
      · omega
      · exact a2 y hy
    · rcases a3 with a3 | ⟨y, hy, a3⟩
      · rcases hg.2.2 with h | h
        · exact .inl (by rw [a3, h])
        · exact .inr ⟨x, List.mem_cons_self, by rw [a3, h]⟩
      · exact .inr ⟨y, List.mem_cons_of_mem _ hy, a3⟩
theorem mn_spec (f : Sign → Int) : ∀ (l : List Sign) (n : Int), l.foldl (gMn f) n ≤ n ∧ (∀ x ∈ l, l.foldl (gMn f) n ≤ f x) ∧ (l.foldl (gMn f) n = n ∨ ∃ x ∈ l, l.foldl (gMn f) n = f x)
  | [], n => ⟨Int.le_refl _, (fun x hx => by cases hx), .inl rfl⟩
  | x :: l, n => by
    obtain ⟨a1, a2, a3⟩ := mn_spec f l (gMn f n x)
    rw [List.foldl_cons]
    have hg : gMn f n x ≤ n ∧ gMn f n x ≤ f x ∧ (gMn f n x = n ∨ gMn f n x = f x) := by
      unfold gMn
      by_cases h : f x < n
      · rw [if_pos h]; exact ⟨by omega, Int.le_refl _, .inr rfl⟩
      · rw [if_neg h]; exact ⟨Int.le_refl _, by omega, .inl rfl⟩
    refine ⟨by omega, fun y hy => ?_, ?_⟩
    · rcases List.mem_cons.1 hy with rfl | hy
      · omega
      · exact a2 y hy
    · rcases a3 with a3 | ⟨y, hy, a3⟩
      · rcases hg.2.2 with h | h
        · exact .inl (by rw [a3, h])
        · exact .inr ⟨x, List.mem_cons_self, by rw [a3, h]⟩
      · exact .inr ⟨y, List.mem_cons_of_mem _ hy, a3⟩
def fSt (s : Sign) : Int := (stepsS s : Int)
def fOp (s : Sign) : Int := openF s.Main.Shape
theorem fSt_bnd {s : Sign} (g : gSign s = true) : 0 ≤ fSt s ∧ fSt s ≤ 18 := by
  unfold fSt stepsS
  have h1 := all_len (gHand_iff.1 (gSign_main g)).2.2.2
  have h2 : (allSteps s.Other.Move).length ≤ 18 := by
    cases h : s.Two
    · rw [gSign_none g h]; decide
    · exact all_len (gHand_iff.1 (gSign_other g h).1).2.2.2
  have : max (allSteps s.Main.Move).length (allSteps s.Other.Move).length ≤ 18 := Nat.max_le.2 ⟨h1, h2⟩
  omega
theorem fOp_bnd (s : Sign) : 0 ≤ fOp s ∧ fOp s ≤ 4 := by
  unfold fOp openF
  have := ixs_len (fun b : Int => decide (b = 0)) [s.Main.Shape.Index, s.Main.Shape.Middle, s.Main.Shape.Ring, s.Main.Shape.Little] 0
  simp only [List.length_cons, List.length_nil] at this
  omega
def goodL (l : List Sign) : Bool := l.all gSign && decide (l.length ≤ 20)
def vTS (l : List Sign) : Int × Bool := if goodL l = true then (l.foldl (gMx fSt) 0, true) else (0, false)
def vTO (l : List Sign) : Int × Bool := if goodL l = true then (l.foldl (gMn fOp) 4, true) else (0, false)
theorem goodL_mem {l : List Sign} (h : goodL l = true) : ∀ s ∈ l, gSign s = true := by
  unfold goodL at h
  rw [Bool.and_eq_true, List.all_eq_true] at h
  exact h.1
theorem areL_eq {k : Nat} {l : List Sign} (hs : ∀ s ∈ l, smallS s) (hk : 2000010 ≤ k) : X.i_areSigns k l 20 = some (goodL l) := by
  rw [i_areSigns_eq hs (by omega)]
  unfold goodL
  have e : decide ((l.length : Int) ≤ 20) = decide (l.length ≤ 20) := by rw [Bool.eq_iff_iff]; simp; omega
  rw [e, Bool.and_comm]
theorem paL_eq {k : Nat} {l : List Sign} (hs : ∀ s ∈ l, smallS s) (hk : 2000010 ≤ k) : X.s_paList k l = some (goodL l) := s_paList_eq hs hk
theorem i_TS_eq {k : Nat} {l : List Sign} (hs : ∀ s ∈ l, smallS s) (hk : 2000010 ≤ k) : X.i_TightestSteps k l = some (vTS l) := by
  unfold X.i_TightestSteps vTS
  rw [areL_eq hs hk, bind_some]
  cases g : goodL l
  · rfl
  · have hg := goodL_mem g
    rw [Bool.not_true, cond_false, range_fold (gMx fSt) l 0 0 fun x hx i n => by rw [i_steps_eq (hg x hx)]; rfl]
    rfl
theorem s_TS_eq {k : Nat} {l : List Sign} (hs : ∀ s ∈ l, smallS s) (hk : 2000010 ≤ k) : X.s_TightestSteps k l = some (vTS l) := by
  unfold X.s_TightestSteps vTS
  rw [paL_eq hs hk, bind_some]
  cases g : goodL l
  · rfl
  · have hg := goodL_mem g
    rw [Bool.not_true, cond_false, range_fold (gMx fSt) l 0 0 fun x hx i n => ?_]
    · rfl
    · rw [s_steps_eq (hg x hx) (by omega), bind_some]
      unfold X.s_l1Most gMx fSt
      by_cases h : n > (stepsS x : Int)
      · rw [decide_eq_true h, if_neg (by omega)]; rfl
      · rw [decide_eq_false h]
        by_cases h2 : (stepsS x : Int) > n
        · rw [if_pos h2]; rfl
        · rw [if_neg h2]
          have : n = (stepsS x : Int) := by omega
          rw [this]; rfl
theorem i_TO_eq {k : Nat} {l : List Sign} (hs : ∀ s ∈ l, smallS s) (hk : 2000010 ≤ k) : X.i_TightestOpen k l = some (vTO l) := by
  unfold X.i_TightestOpen vTO
  rw [areL_eq hs hk, bind_some]
  cases g : goodL l
  · rfl
  · rw [Bool.not_true, cond_false, range_fold (gMn fOp) l 0 4 fun x hx i n => by rw [i_open_eq]; rfl]
    rfl
theorem s_TO_eq {k : Nat} {l : List Sign} (hs : ∀ s ∈ l, smallS s) (hk : 2000010 ≤ k) : X.s_TightestOpen k l = some (vTO l) := by
  unfold X.s_TightestOpen vTO
  rw [paL_eq hs hk, bind_some]
  cases g : goodL l
  · rfl
  · rw [Bool.not_true, cond_false, range_fold (gMn fOp) l 0 4 fun x hx i n => ?_]
    · rfl
    · rw [s_open_eq, bind_some]
      unfold X.s_l1Least gMn fOp
      by_cases h : n < openF x.Main.Shape
      · rw [decide_eq_true h, if_neg (by omega)]; rfl
      · rw [decide_eq_false h]
        by_cases h2 : openF x.Main.Shape < n
        · rw [if_pos h2]; rfl
        · rw [if_neg h2]
          have : n = openF x.Main.Shape := by omega
          rw [this]; rfl
/-! ### Needless constraints -/
def imp (y x : Constraint) : Bool := if y.Kind = x.Kind then (if x.Kind = 0 ∨ x.Kind = 4 then decide (y.Value < x.Value) else if x.Kind = 2 then decide (y.Value > x.Value) else false) else false
theorem i_imp_eq (x y : Constraint) : X.i_NeedlessConstraints_1 x y = some (imp y x) := by
  unfold X.i_NeedlessConstraints_1 imp
  by_cases h : y.Kind = x.Kind
  · rw [if_pos h, h, bne_self_eq_false, cond_false]
    by_cases h0 : x.Kind = 0
    · simp [h0]
    · by_cases h4 : x.Kind = 4
      · simp [h4]
      · by_cases h2 : x.Kind = 2
        · simp [h2]
        · have e0 : (x.Kind == 0) = false := beq_eq_false_iff_ne.2 h0
          have e4 : (x.Kind == 4) = false := beq_eq_false_iff_ne.2 h4
          have e2 : (x.Kind == 2) = false := beq_eq_false_iff_ne.2 h2
          simp [e0, e4, e2, h0, h4, h2]
  · rw [if_neg h, bne_iff_ne.2 h]
    rfl
theorem s_imp_eq (x y : Constraint) : X.s_ruImplies y x = some (imp y x) := by
  unfold X.s_ruImplies imp
  by_cases h : y.Kind = x.Kind
  · rw [if_pos h, h, bne_self_eq_false, cond_false]
    by_cases h0 : x.Kind = 0
    · simp [h0]
    · by_cases h4 : x.Kind = 4
      · simp [h4]
      · by_cases h2 : x.Kind = 2
        · simp [h2]
        · have e0 : (x.Kind == 0) = false := beq_eq_false_iff_ne.2 h0
          have e4 : (x.Kind == 4) = false := beq_eq_false_iff_ne.2 h4
          have e2 : (x.Kind == 2) = false := beq_eq_false_iff_ne.2 h2
          simp [e0, e4, e2, h0, h4, h2]
  · rw [if_neg h, bne_iff_ne.2 h]
    rfl
def need (K : List Constraint) (j : Nat) (x : Constraint) : Bool := decide (x ∈ K.take j) || K.any fun y => imp y x
def ndStep (K : List Constraint) (j : Nat) (x : Constraint) (acc : List Int) : List Int := if need K j x then acc ++ [(j : Int)] else acc
def nd (K : List Constraint) : List Int := rng (ndStep K) K 0 []
def goodC (K : List Constraint) : Bool := K.all gCon && decide (K.length ≤ 10)
def vNeed (K : List Constraint) : List Int × Bool := if goodC K = true then (nd K, true) else ([], false)
theorem idx_gen {α : Type} (F : α → Option Bool) (p : α → Bool) : ∀ (l : List α) (j : Nat), (∀ x ∈ l, F x = some (p x)) → ∃ z, orEl (rangeM (fun (j2 : Int) (x3 : α) (_ : Unit) => (Option.bind (F x3) fun v4_5 => (bif v4_5 then some (.inr (.inl (j2 : Int))) else some (.inl ())))) (fun _ => some (.inr ())) l j ()) (fun r => some r) (fun (_ : Unit) => some (-1)) = some z ∧ decide (z ≥ 0) = l.any p
  | [], j, _ => ⟨-1, rfl, rfl⟩
  | x :: l, j, h => by
    rw [rangeM_cons, h x List.mem_cons_self, bind_some, List.any_cons]
    cases p x
    · exact idx_gen F p l (j + 1) fun y hy => h y (List.mem_cons_of_mem _ hy)
    · exact ⟨(j : Int), rfl, by simp⟩
theorem any_eq (l : List Constraint) (F : Constraint → Option Bool) (p : Constraint → Bool) (h : ∀ x ∈ l, F x = some (p x)) : X.slices_ContainsFunc_i_Constraint_i_Constraint l F = some (l.any p) := by
  unfold X.slices_ContainsFunc_i_Constraint_i_Constraint X.slices_IndexFunc_i_Constraint_i_Constraint
  obtain ⟨z, e, hz⟩ := idx_gen F p l 0 h
  rw [e, bind_some, hz]
theorem qCon_iff (a b : Constraint) : qConstraint a b = decide (a = b) := by
  cases a; cases b
  unfold qConstraint
  rw [Bool.eq_iff_iff]
  simp
theorem mem_eq (l : List Constraint) (x : Constraint) : X.slices_Contains_i_Constraint_i_Constraint l x = some (decide (x ∈ l)) := by
  unfold X.slices_Contains_i_Constraint_i_Constraint X.slices_Index_i_Constraint_i_Constraint
  obtain ⟨z, e, hz⟩ := idx_gen (fun y => some (qConstraint x y)) (fun y => decide (x = y)) l 0 fun y _ => by rw [qCon_iff]
  have e2 : l.any (fun y => decide (x = y)) = decide (x ∈ l) := by
    rw [Bool.eq_iff_iff]
    simp
  rw [← e2, ← hz]
  refine (congrArg (fun o => Option.bind o _) e).trans ?_
  rfl
theorem i_Need_eq (K : List Constraint) (hK : K.length ≤ 100) : X.i_NeedlessConstraints K = some (vNeed K) := by
  unfold X.i_NeedlessConstraints vNeed
  rw [i_areC_eq, bind_some]
  show (bif !goodC K then _ else _) = _
  cases g : goodC K
  · rfl
  · rw [Bool.not_true, cond_false]
    have := (rng_rangeM (mk := fun s : List Int => s) (fin := fun l2 => some l2) (body := fun (j9 : Int) (x10 : Constraint) l2 => (Option.bind (cutS K 0 (j9 : Int)) fun y7_2 => (Option.bind (X.slices_Contains_i_Constraint_i_Constraint y7_2 x10) fun v7_4 => (bif v7_4 then (Option.bind (appG (eI .i64) l2 ([(j9 : Int)] : List Int)) fun y9_3 => some (.inl y9_3)) else (Option.bind (X.slices_ContainsFunc_i_Constraint_i_Constraint K (X.i_NeedlessConstraints_1 x10)) fun v7_8 => (bif v7_8 then (Option.bind (appG (eI .i64) l2 ([(j9 : Int)] : List Int)) fun y9_3 => some (.inl y9_3)) else some (.inl l2))))))) (ndStep K) (fun j acc => acc.length ≤ j) K (fun i x acc hx hv => ?_) K 0 [] rfl (by simp)).1
    · rw [this]
      rfl
    · have hi := some_len hx
      have hcut : cutS K 0 (i : Int) = some (K.take i) := by
        unfold cutS
        rw [if_pos (by omega)]
        simp
      rw [hcut, bind_some, mem_eq, bind_some, any_eq K _ (fun y => imp y x) fun y _ => i_imp_eq x y]
      unfold ndStep need
      cases decide (x ∈ K.take i)
      · cases K.any fun y => imp y x
        · exact ⟨rfl, by simp; omega⟩
        · rw [appI (by omega)]
          exact ⟨rfl, by simp; omega⟩
      · rw [appI (by omega)]
        exact ⟨rfl, by simp; omega⟩
theorem inC_eq (K : List Constraint) (x : Constraint) (j : Nat) : ∀ (l : List Constraint) (i : Nat) (b : Bool), rangeM (fun (j17 : Int) (x18 : Constraint) b14 => (bif b14 then some (.inl true) else (Option.bind (X.s_ruImplies x18 x) fun v11_4 => (bif v11_4 then some (.inl true) else (bif decide ((j17 : Int) < (j : Int)) then some (.inl (qConstraint x x18)) else some (.inl false)))))) (fun b14 => some b14) l i b = some (b || decide (x ∈ l.take (j - i)) || l.any fun y => imp y x)
  | [], i, b => by simp [rangeM_nil]
  | y :: l, i, b => by
    rw [rangeM_cons]
    have ih := inC_eq K x j l (i + 1)
    cases b
    · rw [cond_false, s_imp_eq, bind_some, List.any_cons]
      cases h : imp y x
      · rw [cond_false, qCon_iff]
        rcases Nat.lt_or_ge i j with hij | hij
        · rw [decL hij, cond_true, bind_some]
          dsimp only
          rw [ih]
          have e : j - i = (j - (i + 1)) + 1 := by omega
          rw [e, List.take_succ_cons]
          congr 1
          rw [Bool.eq_iff_iff]
          simp
        · rw [decide_eq_false (by omega), cond_false, bind_some]
          dsimp only
          rw [ih]
          have e1 : j - i = 0 := by omega
          have e2 : j - (i + 1) = 0 := by omega
          rw [e1, e2]
          simp
      · rw [cond_true, bind_some]
        dsimp only
        rw [ih]
        simp
    · rw [cond_true, bind_some]
      dsimp only
      rw [ih]
      simp
theorem s_Need_eq (K : List Constraint) (hK : K.length ≤ 100) : X.s_NeedlessConstraints K = some (vNeed K) := by
  unfold X.s_NeedlessConstraints vNeed
  rw [s_ruAll_eq, bind_some]
  show (bif !goodC K then _ else _) = _
  cases g : goodC K
  · rfl
  · rw [Bool.not_true, cond_false]
    have := (rng_rangeM (mk := fun s : List Int => s) (fin := fun l2 => some l2) (body := fun (j9 : Int) (x10 : Constraint) l2 => (Option.bind (rangeM (fun (j17 : Int) (x18 : Constraint) b14 => (bif b14 then some (.inl true) else (Option.bind (X.s_ruImplies x18 x10) fun v11_4 => (bif v11_4 then some (.inl true) else (bif decide ((j17 : Int) < (j9 : Int)) then some (.inl (qConstraint x10 x18)) else some (.inl false)))))) (fun b14 => some b14) K 0 false) fun b15 => (bif b15 then (Option.bind (appG (eI .i64) l2 ([(j9 : Int)] : List Int)) fun y14_3 => some (.inl y14_3)) else some (.inl l2)))) (ndStep K) (fun j acc => acc.length ≤ j) K (fun i x acc hx hv => ?_) K 0 [] rfl (by simp)).1
    · rw [this]
      rfl
    · have hi := some_len hx
      rw [inC_eq K x i K 0 false, bind_some]
      unfold ndStep need
      rw [Nat.sub_zero, Bool.false_or]
      cases decide (x ∈ K.take i) || K.any fun y => imp y x
      · exact ⟨rfl, by simp; omega⟩
      · rw [appI (by omega)]
        exact ⟨rfl, by simp; omega⟩
theorem nd_mem (K : List Constraint) : ∀ (l : List Constraint) (j : Nat) (acc : List Int) (z : Int), z ∈ rng (ndStep K) l j acc ↔ z ∈ acc ∨ ∃ (q : Nat) (x : Constraint), l[q]? = some x ∧ need K (j + q) x = true ∧ z = ((j + q : Nat) : Int)
  | [], j, acc, z => by simp [rng]
  | x :: l, j, acc, z => by
    rw [rng, nd_mem K l (j + 1)]
    have ea : z ∈ ndStep K j x acc ↔ z ∈ acc ∨ (need K j x = true ∧ z = (j : Int)) := by
      unfold ndStep
      by_cases h : need K j x = true
      · rw [if_pos h]; simp [h]
      · rw [if_neg h]; simp [h]
    rw [ea, or_assoc]
    constructor
    · rintro (h | ⟨h1, h2⟩ | ⟨q, y, h1, h2, h3⟩)
      · exact .inl h
      · exact .inr ⟨0, x, rfl, h1, h2⟩
      · exact .inr ⟨q + 1, y, h1, by rw [show j + (q + 1) = j + 1 + q by omega]; exact h2, by rw [h3]; congr 1; omega⟩
    · rintro (h | ⟨q, y, h1, h2, h3⟩)
      · exact .inl h
      · cases q with
        | zero =>
          have h1 : some x = some y := h1
          cases h1
          exact .inr (.inl ⟨h2, h3⟩)
        | succ q => exact .inr (.inr ⟨q, y, h1, by rw [show j + 1 + q = j + (q + 1) by omega]; exact h2, by rw [h3]; congr 1; omega⟩)
theorem nd_at {K : List Constraint} {i : Nat} {x : Constraint} (h : K[i]? = some x) : decide ((i : Int) ∈ nd K) = need K i x := by
  unfold nd
  cases hn : need K i x
  · rw [decide_eq_false_iff_not, nd_mem]
    rintro (h1 | ⟨q, y, h1, h2, h3⟩)
    · cases h1
    · obtain rfl : i = q := by omega
      rw [h] at h1
      cases h1
      rw [Nat.zero_add, hn] at h2
      cases h2
  · rw [decide_eq_true_iff, nd_mem]
    exact .inr ⟨i, x, h, by rw [Nat.zero_add]; exact hn, by rw [Nat.zero_add]⟩
/-- What stays. -/
def keepL (K : List Constraint) : List Constraint := rng (fun j x acc => if need K j x then acc else acc ++ [x]) K 0 []
theorem keep_mem (K : List Constraint) : ∀ (l : List Constraint) (j : Nat) (acc : List Constraint) (z : Constraint), z ∈ rng (fun j x acc => if need K j x then acc else acc ++ [x]) l j acc ↔ z ∈ acc ∨ ∃ (q : Nat), l[q]? = some z ∧ need K (j + q) z = false
  | [], j, acc, z => by simp [rng]
  | x :: l, j, acc, z => by
    rw [rng, keep_mem K l (j + 1)]
    have ea : z ∈ (if need K j x then acc else acc ++ [x]) ↔ z ∈ acc ∨ (need K j x = false ∧ z = x) := by
      by_cases h : need K j x = true
      · rw [if_pos h]; simp [h]
      · rw [if_neg h]; simp [h]
    rw [ea, or_assoc]
    constructor
    · rintro (h | ⟨h1, h2⟩ | ⟨q, h1, h2⟩)
      · exact .inl h
      · exact .inr ⟨0, by rw [h2]; rfl, by rw [h2]; exact h1⟩
      · exact .inr ⟨q + 1, h1, by rw [show j + (q + 1) = j + 1 + q by omega]; exact h2⟩
    · rintro (h | ⟨q, h1, h2⟩)
      · exact .inl h
      · cases q with
        | zero =>
          have h1 : some x = some z := h1
          cases h1
          exact .inr (.inl ⟨h2, rfl⟩)
        | succ q => exact .inr (.inr ⟨q, h1, by rw [show j + 1 + q = j + (q + 1) by omega]; exact h2⟩)
theorem keep_len (K : List Constraint) : ∀ (l : List Constraint) (j : Nat) (acc : List Constraint), (rng (fun j x acc => if need K j x then acc else acc ++ [x]) l j acc).length ≤ acc.length + l.length
  | [], j, acc => by simp [rng]
  | x :: l, j, acc => by
    rw [rng]
    have := keep_len K l (j + 1) (if need K j x then acc else acc ++ [x])
    simp only [List.length_cons]
    split at this
    · rw [if_pos (by assumption)]
      omega
    · rw [if_neg (by assumption)]
      simp only [List.length_append, List.length_cons, List.length_nil] at this ⊢
      omega
def rankC (x : Constraint) : Nat := if x.Kind = 2 then (100 - x.Value).toNat else x.Value.toNat
theorem gCon_bnd {x : Constraint} (g : gCon x = true) : 0 ≤ x.Kind ∧ x.Kind ≤ 4 ∧ 0 ≤ x.Value ∧ x.Value ≤ 18 := by
  unfold gCon at g
  rw [Bool.and_eq_true] at g
  have h1 := inR_iff.1 g.1
  have h2 := inR_iff.1 g.2
  have h3 : mostC x.Kind ≤ 18 := by
    unfold mostC
    (repeat' split) <;> omega
  omega
theorem imp_rank {y x : Constraint} (gx : gCon x = true) (gy : gCon y = true) (h : imp y x = true) : rankC y < rankC x ∧ ∀ s, keepC y s = true → keepC x s = true := by
  have bx := gCon_bnd gx
  have b_y := gCon_bnd gy
  unfold imp at h
  by_cases h1 : y.Kind = x.Kind
  · rw [if_pos h1] at h
    by_cases h2 : x.Kind = 0 ∨ x.Kind = 4
    · rw [if_pos h2, decide_eq_true_iff] at h
      refine ⟨?_, fun s hs => ?_⟩
      · unfold rankC
        rw [h1, if_neg (by omega), if_neg (by omega)]
        omega
      · unfold keepC at hs ⊢
        rw [h1] at hs
        rcases h2 with h2 | h2
        · rw [if_pos h2, decide_eq_true_iff] at hs ⊢
          omega
        · rw [if_neg (by omega), if_neg (by omega), if_neg (by omega), if_neg (by omega), decide_eq_true_iff] at hs ⊢
          omega
    · rw [if_neg h2] at h
      by_cases h3 : x.Kind = 2
      · rw [if_pos h3, decide_eq_true_iff] at h
        refine ⟨?_, fun s hs => ?_⟩
        · unfold rankC
          rw [h1, if_pos h3, if_pos h3]
          omega
        · unfold keepC at hs ⊢
          rw [h1] at hs
          rw [if_neg (by omega), if_neg (by omega), if_pos h3, decide_eq_true_iff] at hs ⊢
          omega
      · rw [if_neg h3] at h
        cases h
  · rw [if_neg h1] at h
    cases h
theorem keep_all {K : List Constraint} (hg : ∀ x ∈ K, gCon x = true) (hl : K.length ≤ 10) {s : Sign} (h : ∀ x ∈ keepL K, keepC x s = true) : ∀ (m j : Nat) (x : Constraint), rankC x * 100 + j = m → K[j]? = some x → keepC x s = true := by
  intro m
  induction m using Nat.strongRecOn with
  | _ m ih =>
    intro j x hm hx
    have hj := some_len hx
    have mx := List.mem_of_getElem? hx
    cases hn : need K j x
    · exact h x ((keep_mem K K 0 [] x).2 (.inr ⟨j, hx, by rw [Nat.zero_add]; exact hn⟩))
    · unfold need at hn
      rw [Bool.or_eq_true] at hn
      rcases hn with h1 | h1
      · rw [decide_eq_true_iff] at h1
        obtain ⟨i, hi, e⟩ := List.getElem_of_mem h1
        rw [List.length_take] at hi
        rw [List.getElem_take] at e
        have e2 : K[i]? = some x := by rw [List.getElem?_eq_getElem (by omega), e]
        exact ih (rankC x * 100 + i) (by omega) i x rfl e2
      · rw [List.any_eq_true] at h1
        obtain ⟨y, hy, h2⟩ := h1
        obtain ⟨r1, r2⟩ := imp_rank (hg x mx) (hg y hy) h2
        obtain ⟨i, hi, e⟩ := List.getElem_of_mem hy
        have e2 : K[i]? = some y := by rw [List.getElem?_eq_getElem hi, e]
        exact r2 s (ih (rankC y * 100 + i) (by omega) i y rfl e2)
theorem law_keep {K : List Constraint} {L : List Sign} (g : goodC K = true) (gl : goodL L = true) : vLaw L (keepL K) = vLaw L K ∧ (vLaw L K).2 = true := by
  have g0 := g
  unfold goodC at g
  rw [Bool.and_eq_true, List.all_eq_true, decide_eq_true_iff] at g
  have hk : goodC (keepL K) = true := by
    unfold goodC
    rw [Bool.and_eq_true, List.all_eq_true, decide_eq_true_iff]
    refine ⟨fun x hx => ?_, ?_⟩
    · rcases (keep_mem K K 0 [] x).1 hx with h | ⟨q, h, _⟩
      · cases h
      · exact g.1 x (List.mem_of_getElem? h)
    · have := keep_len K K 0 []
      simp only [List.length_nil] at this
      have : (keepL K).length ≤ 0 + K.length := this
      omega
  have e1 : (L.all gSign && decide (L.length ≤ 20) && (K.all gCon && decide (K.length ≤ 10))) = true := by
    show (goodL L && goodC K) = true
    rw [gl, g0]
    rfl
  have e2 : (L.all gSign && decide (L.length ≤ 20) && ((keepL K).all gCon && decide ((keepL K).length ≤ 10))) = true := by
    show (goodL L && goodC (keepL K)) = true
    rw [gl, hk]
    rfl
  unfold vLaw
  rw [if_pos e1, if_pos e2]
  refine ⟨?_, rfl⟩
  have : (fun s => (keepL K).all fun x => keepC x s) = fun s => K.all fun x => keepC x s := by
    funext s
    rw [Bool.eq_iff_iff, List.all_eq_true, List.all_eq_true]
    constructor
    · intro h x hx
      obtain ⟨i, hi, e⟩ := List.getElem_of_mem hx
      exact keep_all g.1 g.2 h _ i x rfl (by rw [List.getElem?_eq_getElem hi, e])
    · intro h x hx
      rcases (keep_mem K K 0 [] x).1 hx with h1 | ⟨q, h1, _⟩
      · cases h1
      · exact h x (List.mem_of_getElem? h1)
  rw [this]
theorem brk_len {x : Constraint} {L : List Sign} : decide ((brk x L).length = 0) = L.all (fun s => keepC x s) := by
  unfold brk
  rw [ixs_none]
  induction L with
  | nil => rfl
  | cons s L ih => rw [List.any_cons, List.all_cons, ← ih]; cases keepC x s <;> simp
theorem vBreak_eq {L : List Sign} {x : Constraint} (g : goodL L = true) (gx : gCon x = true) : vBreak L x = (brk x L, true) := by
  unfold vBreak
  have e : (L.all gSign && decide (L.length ≤ 20) && gCon x) = true := by
    show (goodL L && gCon x) = true
    rw [g, gx]
    rfl
  rw [if_pos e]
theorem most_arg (l : List Sign) : ∀ (c : List Constraint) (j : Nat) (s : Int × Int), rangeM (mostB l) (fun s => some s) c j s = some (arg gtB (fun x => ((brk x l).length : Int)) c j s)
  | [], j, s => rfl
  | x :: c, j, s => by
    rw [rangeM_cons, arg]
    unfold mostB gtB
    by_cases h : ((brk x l).length : Int) > s.2
    · rw [decide_eq_true h, cond_true, if_pos rfl]
      exact most_arg l c (j + 1) _
    · rw [decide_eq_false h, cond_false, if_neg (by simp)]
      exact most_arg l c (j + 1) _
theorem gu0 (a : Int) : gtB a a = false := by unfold gtB; simp
theorem gu1 (a b d : Int) (h1 : gtB a b = true) (h2 : gtB a d = false) : gtB b d = false := by
  unfold gtB at *; simp only [decide_eq_true_iff, decide_eq_false_iff_not] at *; omega
theorem gu2 (a b d : Int) (h1 : gtB a b = false) (h2 : gtB b d = false) : gtB a d = false := by
  unfold gtB at *; simp only [decide_eq_false_iff_not] at *; omega
theorem Pure.FnTightest (c : List Int) (o_c : okL okY c) (d : List Int) (o_d : okL okY d) : X.l_FnTightest 3000000 c d = some true := by
  have hc := okB8_of o_c
  have hd := okB8_of o_d
  unfold X.l_FnTightest
  cases decide ((wr ((List.length c : Int) + (List.length d : Int))) > 1048576) with
  | true => rfl
  | false =>
  rw [cond_false]
  obtain ⟨L, e, hn, hL⟩ := tightDraw_ex (k := 3000000) hc (by omega)
  have hs : ∀ s ∈ L, smallS s := fun s h => tinyS_small (hL s h)
  rw [e, bind_some, i_TS_eq hs (by omega), bind_some, s_TS_eq hs (by omega), bind_some, i_TO_eq hs (by omega), bind_some, s_TO_eq hs (by omega), bind_some]
  obtain ⟨K, e, hK⟩ := needDraw_ex (k := 3000000) hd (by omega)
  rw [e, bind_some, i_Need_eq K (by omega), bind_some, s_Need_eq K (by omega), bind_some]
  obtain ⟨M, Q, e, hnM, hM, hQ⟩ := mostBroken_ex (k := 3000000) hd (by omega)
  have hsM : ∀ s ∈ M, smallS s := fun s h => tinyS_small (hM s h)
  rw [e, bind_some]
  dsimp only
  obtain ⟨V, eV⟩ := vMost_some M Q
  rw [i_Most_eq Q hsM (by omega) (by omega), s_Most_eq Q hsM (by omega) (by omega), eV, bind_some, bind_some]
  refine bindB (v := false) ?_ ?_
  · simp only [beq_self_eq_true, Bool.not_true, cond_false, qInts_refl, bind_some, bne_self_eq_false]
    unfold vTS vTO
    cases goodL L <;> rfl
  rw [cond_false]
  refine orElB (v := ()) ?_ ?_
  · cases g : goodL L
    · unfold vTS
      rw [g]
      rfl
    · have hg := goodL_mem g
      have e1 : vTS L = (L.foldl (gMx fSt) 0, true) := by unfold vTS; rw [if_pos g]
      have e2 : vTO L = (L.foldl (gMn fOp) 4, true) := by unfold vTO; rw [if_pos g]
      obtain ⟨a1, a2, a3⟩ := mx_spec fSt L 0
      obtain ⟨b1, b2, b3⟩ := mn_spec fOp L 4
      rw [e1, e2]
      generalize L.foldl (gMx fSt) 0 = T at a1 a2 a3
      generalize L.foldl (gMn fOp) 4 = O at b1 b2 b3
      have hT : T ≤ 18 := by
        rcases a3 with h | ⟨x, hx, h⟩
        · omega
        · have := (fSt_bnd (hg x hx)).2; omega
      have hO : 0 ≤ O := by
        rcases b3 with h | ⟨x, hx, h⟩
        · omega
        · have := (fOp_bnd x).1; omega
      have gc0 : ∀ z : Int, 0 ≤ z → z ≤ 18 → gCon ⟨0, z⟩ = true := fun z h1 h2 => by
        have e : inR (0 : Int) 0 4 = true := by decide
        show (inR (0 : Int) 0 4 && inR z 0 18) = true
        rw [e, Bool.true_and]
        exact inR_iff.2 ⟨h1, h2⟩
      have gc2 : ∀ z : Int, 0 ≤ z → z ≤ 4 → gCon ⟨2, z⟩ = true := fun z h1 h2 => by
        have e : inR (2 : Int) 0 4 = true := by decide
        show (inR (2 : Int) 0 4 && inR z 0 4) = true
        rw [e, Bool.true_and]
        exact inR_iff.2 ⟨h1, h2⟩
      have k0 : ∀ (z : Int) (s : Sign), keepC ⟨0, z⟩ s = decide (fSt s ≤ z) := fun z s => rfl
      have k2 : ∀ (z : Int) (s : Sign), keepC ⟨2, z⟩ s = decide (fOp s ≥ z) := fun z s => rfl
      have n0 : ∀ (x : Constraint), (L.all fun s => keepC x s) = true → decide (((brk x L).length : Int) > 0) = false := fun x h => by
        rw [← brk_len, decide_eq_true_iff] at h
        rw [h]
        rfl
      have n1 : ∀ (x : Constraint), (L.all fun s => keepC x s) = false → (((brk x L).length : Int) == 0) = false := fun x h => by
        rw [← brk_len, decide_eq_false_iff_not] at h
        exact beq_eq_false_iff_ne.2 (by omega)
      dsimp only
      rw [cond_true, i_BreakersOf_eq _ hs (by omega) (by omega), bind_some, i_BreakersOf_eq _ hs (by omega) (by omega), bind_some, vBreak_eq g (gc0 T a1 hT), vBreak_eq g (gc2 O hO b1)]
      refine bindB (v := false) ?_ ?_
      · dsimp only
        rw [n0 _ (List.all_eq_true.2 fun s h => by rw [k0, decide_eq_true_iff]; exact a2 s h), n0 _ (List.all_eq_true.2 fun s h => by rw [k2, decide_eq_true_iff]; exact b2 s h)]
        rfl
      rw [cond_false]
      refine orElB (v := ()) ?_ ?_
      · by_cases h : T > 0
        · have hw : wr (T - 1) = T - 1 := wr_of (by omega) (by omega)
          rw [decide_eq_true h, cond_true, hw, i_BreakersOf_eq _ hs (by omega) (by omega), bind_some, vBreak_eq g (gc0 (T - 1) (by omega) (by omega))]
          have hf : (L.all fun s => keepC ⟨0, T - 1⟩ s) = false := by
            rcases a3 with h1 | ⟨x, hx, h1⟩
            · omega
            · rw [List.all_eq_false]
              exact ⟨x, hx, by rw [k0]; simp; omega⟩
          dsimp only
          rw [n1 _ hf]
          rfl
        · rw [decide_eq_false h]
          rfl
      refine orElB (v := ()) ?_ ?_
      · by_cases h : O < 4
        · have hw : wr (O + 1) = O + 1 := wr_of (by omega) (by omega)
          rw [decide_eq_true h, cond_true, hw, i_BreakersOf_eq _ hs (by omega) (by omega), bind_some, vBreak_eq g (gc2 (O + 1) (by omega) (by omega))]
          have hf : (L.all fun s => keepC ⟨2, O + 1⟩ s) = false := by
            rcases b3 with h1 | ⟨x, hx, h1⟩
            · omega
            · rw [List.all_eq_false]
              exact ⟨x, hx, by rw [k2]; simp; omega⟩
          dsimp only
          rw [n1 _ hf]
          rfl
        · rw [decide_eq_false h]
          rfl
      cases gC : goodC K
      · unfold vNeed
        rw [gC]
        rfl
      · have e3 : vNeed K = (nd K, true) := by unfold vNeed; rw [if_pos gC]
        rw [e3]
        dsimp only
        rw [cond_true]
        have hloop := (rng_rangeM (mk := fun s : List Constraint => s) (fin := fun l35 => some l35) (body := fun (j42 : Int) (x43 : Constraint) l35 => (Option.bind (X.l_qHas (nd K) (j42 : Int)) fun v34_2 => (bif (!v34_2) then (Option.bind (appG nConstraint l35 ([x43] : List Constraint)) fun y35_3 => some (.inl y35_3)) else some (.inl l35)))) (fun j x acc => if need K j x then acc else acc ++ [x]) (fun j acc => acc.length ≤ j) K (fun i x acc hx hv => by
          have hi := some_len hx
          rw [qHas_eq, bind_some, nd_at hx]
          cases need K i x
          · rw [appC1 (by omega)]
            exact ⟨rfl, by simp; omega⟩
          · exact ⟨rfl, by simp; omega⟩) K 0 [] rfl (by simp)).1
        rw [hloop, bind_some]
        obtain ⟨l1, l2⟩ := law_keep gC g
        have e4 : X.i_LawfulSigns 3000000 L (rng (fun j x acc => if need K j x then acc else acc ++ [x]) K 0 []) = some (vLaw L (keepL K)) := i_Law_eq _ hs (by omega) (by omega)
        rw [i_Law_eq _ hs (by omega) (by omega), bind_some, e4, bind_some, l1, l2]
        simp only [Bool.not_true, cond_false, qInts_refl, bind_some]
  unfold vMost at eV
  by_cases gm : (M.all gSign && decide (M.length ≤ 20) && (Q.all gCon && decide (Q.length ≤ 10)) && decide (Q.length ≠ 0)) = true
  · rw [if_pos gm, most_arg, bind_some] at eV
    cases eV
    rw [Bool.and_eq_true, Bool.and_eq_true] at gm
    obtain ⟨⟨g1, g2⟩, g3⟩ := gm
    rw [Bool.and_eq_true, List.all_eq_true] at g2
    have hne : Q ≠ [] := fun e => by subst e; simp at g3
    obtain ⟨a1, a2, a3⟩ := arg_best gu0 gu1 gu2 (fun x => ((brk x M).length : Int)) Q 0 (0, -1)
    have hle : ∀ x ∈ Q, ((brk x M).length : Int) ≤ (arg gtB (fun x => ((brk x M).length : Int)) Q 0 (0, -1)).2 := fun x hx => by
      have := a1 x hx
      unfold gtB at this
      rw [decide_eq_false_iff_not] at this
      unfold gtB
      omega
    have hat : ∃ (i : Nat) (x : Constraint), Q[i]? = some x ∧ arg gtB (fun x => ((brk x M).length : Int)) Q 0 (0, -1) = ((i : Int), ((brk x M).length : Int)) := by
      rcases a3 with a3 | ⟨i, x, hx, a3⟩
      · exfalso
        obtain ⟨x, hx⟩ := List.exists_mem_of_ne_nil Q hne
        have := hle x hx
        rw [a3] at this
        dsimp only at this
        omega
      · exact ⟨i, x, hx, by rw [a3, Nat.zero_add]⟩
    obtain ⟨q, z, hz, hq⟩ := hat
    rw [hq] at hle
    rw [hq]
    dsimp only at hle ⊢
    rw [cond_true]
    refine orElB (v := ()) ?_ rfl
    rw [range_all0]
    intro i x hx
    have mx := List.mem_of_getElem? hx
    have hlx := hle x mx
    rw [s_BreakersOf_eq _ hsM (by omega) (by omega), bind_some, vBreak_eq g1 (g2.1 x mx)]
    dsimp only
    rw [Bool.not_true, cond_false, decide_eq_false (by omega), cond_false]
    by_cases hiq : i = q
    · subst hiq
      rw [hx] at hz
      cases hz
      rw [beq_self_eq_true, bne_self_eq_false]
      rfl
    · have : ((i : Int) == (q : Int)) = false := beq_eq_false_iff_ne.2 (by omega)
      rw [this, cond_false]
  · rw [if_neg gm] at eV
    cases eV
    rfl
end Go.Proofs.XC
