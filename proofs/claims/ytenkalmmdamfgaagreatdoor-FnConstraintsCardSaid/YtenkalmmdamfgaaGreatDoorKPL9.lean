/- Plain laws of the plain functions: no program, no memory. By AI agents; no person has read it. -/
import Derived.Test.YtenkalmmdamfgaaGreatDoorKPL6
import Derived.Test.YtenkalmmdamfgaaGreatDoorKPQ2
set_option linter.unusedVariables false
set_option linter.unusedSimpArgs false
set_option maxRecDepth 100000
set_option maxHeartbeats 40000000
namespace Go.Proofs.XC
open Go Go.RowKit
/-! ### Drawn constraints -/
theorem ruMost_ex {z : Int} (h : 0 ≤ z ∧ (z < 5 ∨ z = 0)) : ∃ v, X.s_ruMost z = some v ∧ 0 ≤ v ∧ v ≤ 18 := by
  obtain ⟨h0, h1⟩ := h
  have : z = 0 ∨ z = 1 ∨ z = 2 ∨ z = 3 ∨ z = 4 := by omega
  rcases this with rfl | rfl | rfl | rfl | rfl
  · exact ⟨18, rfl, by omega, by omega⟩
  · exact ⟨9, rfl, by omega, by omega⟩
  · exact ⟨4, rfl, by omega, by omega⟩
  · exact ⟨3, rfl, by omega, by omega⟩
  · exact ⟨9, rfl, by omega, by omega⟩
theorem conTail {c : List Int} {t s : Int} {m : Nat} {z u : Int} (hc : okB8 c) (hz : 0 ≤ z ∧ (z < 5 ∨ z = 0)) (h : Bg m t) (hm : 4 ≤ m) : Dw (m - 4) (fun _ : Constraint => True) (Option.bind (X.s_l1Cur_pick c t s 40) fun v7_1 => (bif (v7_1.1 == 0) then (Option.bind (X.s_l1Cur_among c v7_1.2.1 v7_1.2.2 ([(-1), 5] : List Int)) fun v9_2 => some ((⟨v9_2.1, u⟩ : Constraint), v9_2.2.1, v9_2.2.2)) else (bif (v7_1.1 == 1) then (Option.bind (X.s_ruMost z) fun v11_2 => (Option.bind (X.s_l1Cur_among c v7_1.2.1 v7_1.2.2 ([(-1), (wr (v11_2 + 1)), (-9223372036854775808)] : List Int)) fun v11_5 => some ((⟨z, v11_5.1⟩ : Constraint), v11_5.2.1, v11_5.2.2))) else some ((⟨z, u⟩ : Constraint), v7_1.2.1, v7_1.2.2)))) := by
  refine Dw.bind (pick_ex hc h (by omega)) fun v t s h _ => ?_
  dsimp only
  refine Dw.cond (fun _ => ?_) (fun _ => Dw.cond (fun _ => ?_) (fun _ => Dw.done h trivial (by omega)))
  · exact Dw.bind (among_ex hc h (by omega) (by simp)) fun v t s h _ => Dw.done h trivial (by omega)
  · exact Dw.pure (ruMost_ex hz) fun v _ => Dw.bind (among_ex hc h (by omega) (by simp)) fun v t s h _ => Dw.done h trivial (by omega)
theorem constraint_ex {c : List Int} {t s : Int} {m : Nat} (hc : okB8 c) (h : Bg m t) (hm : 20 ≤ m) : Dw (m - 20) (fun _ : Constraint => True) (X.s_l1Cur_constraint c t s) := by
  unfold X.s_l1Cur_constraint
  refine Dw.bind (pick_ex hc h (by omega)) fun z t s h hz => ?_
  dsimp only
  refine Dw.pure (ruMost_ex hz) fun w _ => ?_
  refine Dw.bind (pick_ex hc h (by omega)) fun v t s h _ => ?_
  dsimp only
  have tl : ∀ (u t s : Int) (m' : Nat), Bg m' t → m - 16 ≤ m' → Dw (m - 20) (fun _ : Constraint => True) (Option.bind (X.s_l1Cur_pick c t s 40) fun v7_1 => (bif (v7_1.1 == 0) then (Option.bind (X.s_l1Cur_among c v7_1.2.1 v7_1.2.2 ([(-1), 5] : List Int)) fun v9_2 => some ((⟨v9_2.1, u⟩ : Constraint), v9_2.2.1, v9_2.2.2)) else (bif (v7_1.1 == 1) then (Option.bind (X.s_ruMost z) fun v11_2 => (Option.bind (X.s_l1Cur_among c v7_1.2.1 v7_1.2.2 ([(-1), (wr (v11_2 + 1)), (-9223372036854775808)] : List Int)) fun v11_5 => some ((⟨z, v11_5.1⟩ : Constraint), v11_5.2.1, v11_5.2.2))) else some ((⟨z, u⟩ : Constraint), v7_1.2.1, v7_1.2.2)))) := fun u t s m' h hm' => (conTail hc hz h (by omega)).mono (by omega) fun _ h => h
  have mid : ∀ (u t s : Int) (m' : Nat), Bg m' t → m - 10 ≤ m' → Dw (m - 20) (fun _ : Constraint => True) (bif (z == 0) then (Option.bind (X.s_l1Cur_one c t s 2) fun v5_4 => (bif v5_4.1 then (Option.bind (X.s_l1Cur_pick c v5_4.2.1 v5_4.2.2 5) fun v6_1 => (Option.bind (X.s_l1Cur_pick c v6_1.2.1 v6_1.2.2 40) fun v7_1 => (bif (v7_1.1 == 0) then (Option.bind (X.s_l1Cur_among c v7_1.2.1 v7_1.2.2 ([(-1), 5] : List Int)) fun v9_2 => some ((⟨v9_2.1, v6_1.1⟩ : Constraint), v9_2.2.1, v9_2.2.2)) else (bif (v7_1.1 == 1) then (Option.bind (X.s_ruMost z) fun v11_2 => (Option.bind (X.s_l1Cur_among c v7_1.2.1 v7_1.2.2 ([(-1), (wr (v11_2 + 1)), (-9223372036854775808)] : List Int)) fun v11_5 => some ((⟨z, v11_5.1⟩ : Constraint), v11_5.2.1, v11_5.2.2))) else some ((⟨z, v6_1.1⟩ : Constraint), v7_1.2.1, v7_1.2.2))))) else (Option.bind (X.s_l1Cur_pick c v5_4.2.1 v5_4.2.2 40) fun v7_1 => (bif (v7_1.1 == 0) then (Option.bind (X.s_l1Cur_among c v7_1.2.1 v7_1.2.2 ([(-1), 5] : List Int)) fun v9_2 => some ((⟨v9_2.1, u⟩ : Constraint), v9_2.2.1, v9_2.2.2)) else (bif (v7_1.1 == 1) then (Option.bind (X.s_ruMost z) fun v11_2 => (Option.bind (X.s_l1Cur_among c v7_1.2.1 v7_1.2.2 ([(-1), (wr (v11_2 + 1)), (-9223372036854775808)] : List Int)) fun v11_5 => some ((⟨z, v11_5.1⟩ : Constraint), v11_5.2.1, v11_5.2.2))) else some ((⟨z, u⟩ : Constraint), v7_1.2.1, v7_1.2.2)))))) else (Option.bind (X.s_l1Cur_pick c t s 40) fun v7_1 => (bif (v7_1.1 == 0) then (Option.bind (X.s_l1Cur_among c v7_1.2.1 v7_1.2.2 ([(-1), 5] : List Int)) fun v9_2 => some ((⟨v9_2.1, u⟩ : Constraint), v9_2.2.1, v9_2.2.2)) else (bif (v7_1.1 == 1) then (Option.bind (X.s_ruMost z) fun v11_2 => (Option.bind (X.s_l1Cur_among c v7_1.2.1 v7_1.2.2 ([(-1), (wr (v11_2 + 1)), (-9223372036854775808)] : List Int)) fun v11_5 => some ((⟨z, v11_5.1⟩ : Constraint), v11_5.2.1, v11_5.2.2))) else some ((⟨z, u⟩ : Constraint), v7_1.2.1, v7_1.2.2))))) := by
    intro u t s m' h hm'
    refine Dw.cond (fun _ => ?_) (fun _ => tl _ _ _ _ h (by omega))
    refine Dw.bind (one_ex hc h (by omega)) fun v t s h _ => ?_
    dsimp only
    refine Dw.cond (fun _ => ?_) (fun _ => tl _ _ _ _ h (by omega))
    refine Dw.bind (pick_ex hc h (by omega)) fun v t s h _ => ?_
    exact tl _ _ _ _ h (by omega)
  refine Dw.cond (fun _ => Dw.cond (fun _ => ?_) (fun _ => ?_)) (fun _ => ?_)
  · exact mid _ _ _ _ h (by omega)
  · exact mid _ _ _ _ h (by omega)
  · exact mid _ _ _ _ h (by omega)
theorem appC1 {l : List Constraint} {x : Constraint} (h : l.length ≤ 100) : appG nConstraint l [x] = some (l ++ [x]) := by
  unfold appG
  have hby : nConstraint.by_ = 16 := rfl
  rw [if_pos]
  rw [hby]
  simp only [List.length_cons, List.length_nil]
  omega
def csI (j : Nat) (l : List Constraint) : Prop := l.length = j
theorem csI0 : csI 0 [] := rfl
def csBody (c : List Int) (N : Int) : Int × Int × List Constraint → Option ((Int × Int × List Constraint) ⊕ (Int × Int × List Constraint)) := fun ⟨n2, n3, l4⟩ => (bif decide ((List.length l4 : Int) < N) then (Option.bind (X.s_l1Cur_constraint c n2 n3) fun v6_2 => (Option.bind (appG nConstraint l4 ([v6_2.1] : List Constraint)) fun y6_4 => (bif decide ((List.length y6_4 : Int) > 1) then (Option.bind (X.s_l1Cur_one c v6_2.2.1 v6_2.2.2 3) fun v8_4 => (bif v8_4.1 then (Option.bind (X.s_l1Cur_pick c v8_4.2.1 v8_4.2.2 (wr ((List.length y6_4 : Int) - 1))) fun v9_7 => (Option.bind (getI y6_4 v9_7.1) fun y9_8 => (Option.bind (getI y6_4 (wr ((List.length y6_4 : Int) - 1))) fun y9_10 => some (.inl (v9_7.2.1, v9_7.2.2, (List.set y6_4 (Int.toNat (wr ((List.length y6_4 : Int) - 1))) y9_8)))))) else some (.inl (v8_4.2.1, v8_4.2.2, y6_4)))) else some (.inl (v6_2.2.1, v6_2.2.2, y6_4))))) else some (.inr (n2, n3, l4)))
theorem getA {α : Type} {l : List α} {z : Int} (h1 : 0 ≤ z) (h2 : z < (l.length : Int)) : ∃ x, getI l z = some x ∧ True := by
  obtain ⟨x, e, hx⟩ := el_ex (l := l) (v := z) (by intro e; subst e; simp at h2; omega) ⟨h1, .inl h2⟩
  exact ⟨x, e, trivial⟩
theorem cs_go {c : List Int} (hc : okB8 c) {n : Nat} (hn : n ≤ 30) : ∀ t s b j m, j < n → csI j b → Bg (m + 30) t → Lw m (csI (j + 1)) (csBody c (n : Int) (t, s, b)) := by
  intro t s l j m hj e h
  unfold csI at e
  subst e
  unfold csBody
  dsimp only
  rw [decL hj, cond_true]
  refine Lw.bind (constraint_ex hc h (by omega)) fun v t s h _ => ?_
  dsimp only
  rw [appC1 (by omega), bind_some]
  have hlen : (l ++ [v]).length = l.length + 1 := by simp
  generalize l ++ [v] = y at hlen
  refine Lw.cond (fun hd => ?_) (fun _ => Lw.done h hlen (by omega))
  have hd := of_decide_eq_true hd
  have w1 : wr ((y.length : Int) - 1) = (y.length : Int) - 1 := wr_of (by omega) (by omega)
  refine Lw.bind (one_ex hc h (by omega)) fun v2 t s h _ => ?_
  dsimp only
  refine Lw.cond (fun _ => ?_) (fun _ => Lw.done h hlen (by omega))
  rw [w1]
  refine Lw.bind (pick_ex hc h (by omega)) fun v3 t s h hv => ?_
  dsimp only
  refine Lw.pure (getA hv.1 (by omega)) fun x _ => ?_
  refine Lw.pure (getA (l := y) (z := (y.length : Int) - 1) (by omega) (by omega)) fun z _ => ?_
  exact Lw.done h (by unfold csI; rw [List.length_set, hlen]) (by omega)
theorem cs_stop {c : List Int} {n : Nat} : ∀ t s b, csI n b → csBody c (n : Int) (t, s, b) = some (.inr (t, s, b)) := by
  intro t s l e
  unfold csI at e
  subst e
  unfold csBody
  dsimp only
  rw [decE, cond_false]
theorem constraints_ex {c : List Int} {t s : Int} {m k : Nat} (hc : okB8 c) (h : Bg m t) (hm : 1000 ≤ m) (hk : 2000010 ≤ k) : Dw (m - 1000) (fun L : List Constraint => L.length ≤ 11) (X.s_l1Cur_constraints k c t s) := by
  unfold X.s_l1Cur_constraints
  refine Dw.bind (pick_ex hc h (by omega)) fun n t s h hn => ?_
  refine Dw.bind (one_ex hc h (by omega)) fun v t s h _ => ?_
  dsimp only
  refine Dw.cond (fun _ => ?_) (fun _ => ?_)
  · refine Dw.bind (pick_ex hc h (by omega)) fun q t s h hq => ?_
    dsimp only
    obtain ⟨q, rfl⟩ := Int.eq_ofNat_of_zero_le hq.1
    rw [wr20 10 q (by omega) (by omega)]
    refine Dw.loop (I := csI) (n := 10 + q) (cost := 30) (m := m - 900) (body := csBody c ((10 + q : Nat) : Int)) (cs_go hc (by omega)) cs_stop csI0 (by omega) h (by omega) fun t s l h e => ?_
    have e : l.length = _ := e
    exact Dw.done h (show l.length ≤ 11 by omega) (by omega)
  · obtain ⟨n, rfl⟩ := Int.eq_ofNat_of_zero_le hn.1
    refine Dw.loop (I := csI) (n := n) (cost := 30) (m := m - 900) (body := csBody c (n : Int)) (cs_go hc (by omega)) cs_stop csI0 (by omega) h (by omega) fun t s l h e => ?_
    have e : l.length = _ := e
    exact Dw.done h (show l.length ≤ 11 by omega) (by omega)
theorem lawful_ex {c : List Int} {k : Nat} (hc : okB8 c) (hk : 2000010 ≤ k) : ∃ L Q, X.s_DrawLawfulSigns k c = some (L, Q) ∧ L.length ≤ 21 ∧ allT L ∧ Q.length ≤ 11 := by
  unfold X.s_DrawLawfulSigns
  obtain ⟨L, t, s, e, h, hn, hL⟩ := signList_ex (s := 0) hc Bg.start (by omega) hk
  rw [e, bind_some]
  dsimp only
  obtain ⟨Q, t, s, e, h, hQ⟩ := constraints_ex (s := s) hc h (by omega) hk
  rw [e]
  exact ⟨L, Q, rfl, hn, hL, hQ⟩
/-! ### Most and least -/
/-! ### Needless constraints -/
def goodC (K : List Constraint) : Bool := K.all gCon && decide (K.length ≤ 10)
theorem qCon_iff (a b : Constraint) : qConstraint a b = decide (a = b) := by
  cases a; cases b
  unfold qConstraint
  rw [Bool.eq_iff_iff]
  simp
theorem gCon_bnd {x : Constraint} (g : gCon x = true) : 0 ≤ x.Kind ∧ x.Kind ≤ 4 ∧ 0 ≤ x.Value ∧ x.Value ≤ 18 := by
  unfold gCon at g
  rw [Bool.and_eq_true] at g
  have h1 := inR_iff.1 g.1
  have h2 := inR_iff.1 g.2
  have h3 : mostC x.Kind ≤ 18 := by
    unfold mostC
    (repeat' split) <;> omega
  omega
end Go.Proofs.XC
