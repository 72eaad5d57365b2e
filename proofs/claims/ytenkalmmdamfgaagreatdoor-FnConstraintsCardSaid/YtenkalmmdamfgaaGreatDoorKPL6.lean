/- Plain laws of the plain functions: no program, no memory. By AI agents; no person has read it. -/
import Derived.Test.YtenkalmmdamfgaaGreatDoorKPL5
import Derived.Test.YtenkalmmdamfgaaGreatDoorKPR1
set_option linter.unusedVariables false
set_option linter.unusedSimpArgs false
set_option maxRecDepth 100000
set_option maxHeartbeats 40000000
namespace Go.Proofs.XC
open Go Go.RowKit
/-! ### Near signs -/
def liI (j : Nat) (l : List Sign) : Prop := allT l ∧ l.length = j
def liBody (k : Nat) (c : List Int) (N : Int) : Int × Int × List Sign → Option ((Int × Int × List Sign) ⊕ (Int × Int × List Sign)) := fun ⟨n2, n3, l4⟩ => (bif decide ((List.length l4 : Int) < N) then (Option.bind (X.s_l1Cur_sign k c n2 n3) fun v6_2 => (Option.bind (appG nSign l4 ([v6_2.1] : List Sign)) fun y6_4 => (bif decide ((List.length y6_4 : Int) > 1) then (Option.bind (X.s_l1Cur_one c v6_2.2.1 v6_2.2.2 3) fun v8_4 => (bif v8_4.1 then (Option.bind (getI y6_4 (wr ((List.length y6_4 : Int) - 2))) fun y9_6 => (Option.bind (getI y6_4 (wr ((List.length y6_4 : Int) - 1))) fun y9_10 => (Option.bind (getI (List.set y6_4 (Int.toNat (wr ((List.length y6_4 : Int) - 1))) ({ y9_10 with Main := { y9_10.Main with Move := y9_6.Main.Move } })) (wr ((List.length y6_4 : Int) - 1))) fun y10_3 => (Option.bind (X.s_siGood k y10_3) fun v10_5 => (bif (!v10_5) then (Option.bind (getI (List.set y6_4 (Int.toNat (wr ((List.length y6_4 : Int) - 1))) ({ y9_10 with Main := { y9_10.Main with Move := y9_6.Main.Move } })) (wr ((List.length y6_4 : Int) - 2))) fun y11_6 => some (.inl (v8_4.2.1, v8_4.2.2, (List.set (List.set y6_4 (Int.toNat (wr ((List.length y6_4 : Int) - 1))) ({ y9_10 with Main := { y9_10.Main with Move := y9_6.Main.Move } })) (Int.toNat (wr ((List.length y6_4 : Int) - 1))) y11_6)))) else some (.inl (v8_4.2.1, v8_4.2.2, (List.set y6_4 (Int.toNat (wr ((List.length y6_4 : Int) - 1))) ({ y9_10 with Main := { y9_10.Main with Move := y9_6.Main.Move } }))))))))) else some (.inl (v8_4.2.1, v8_4.2.2, y6_4)))) else some (.inl (v6_2.2.1, v6_2.2.2, y6_4))))) else some (.inr (n2, n3, l4)))
theorem getT {l : List Sign} {z : Int} (h : allT l) (h1 : 0 ≤ z) (h2 : z < (l.length : Int)) : ∃ x, getI l z = some x ∧ tinyS x := by
  obtain ⟨x, e, hx⟩ := el_ex (l := l) (v := z) (by intro e; subst e; simp at h2; omega) ⟨h1, .inl h2⟩
  exact ⟨x, e, h x hx⟩
theorem li_go {c : List Int} {k : Nat} (hc : okB8 c) (hk : 2000010 ≤ k) {n : Nat} (hn : n ≤ 30) : ∀ t s b j m, j < n → liI j b → Bg (m + 210) t → Lw m (liI (j + 1)) (liBody k c (n : Int) (t, s, b)) := by
  intro t s l j m hj ⟨hl, e⟩ h
  subst e
  unfold liBody
  dsimp only
  rw [decL hj, cond_true]
  refine Lw.bind (sign_ex hc h (by omega) hk) fun v t s h hv => ?_
  dsimp only
  rw [appS1 (by omega), bind_some]
  have ha := allT_app hl hv
  have hlen : (l ++ [v]).length = l.length + 1 := by simp
  generalize l ++ [v] = y at ha hlen
  refine Lw.cond (fun hd => ?_) (fun _ => Lw.done h ⟨ha, hlen⟩ (by omega))
  have hd := of_decide_eq_true hd
  have w1 : wr ((y.length : Int) - 1) = (y.length : Int) - 1 := wr_of (by omega) (by omega)
  have w2 : wr ((y.length : Int) - 2) = (y.length : Int) - 2 := wr_of (by omega) (by omega)
  refine Lw.bind (one_ex hc h (by omega)) fun v2 t s h _ => ?_
  dsimp only
  refine Lw.cond (fun _ => ?_) (fun _ => Lw.done h ⟨ha, hlen⟩ (by omega))
  rw [w1, w2]
  refine Lw.pure (getT ha (by omega) (by omega)) fun x hx => ?_
  refine Lw.pure (getT ha (by omega) (by omega)) fun z hz => ?_
  have hw : tinyS { z with Main := { z.Main with Move := x.Main.Move } } := ⟨hx.1, hz.2⟩
  generalize ({ z with Main := { z.Main with Move := x.Main.Move } } : Sign) = w at hw
  have hb := allT_set (i := Int.toNat ((y.length : Int) - 1)) ha hw
  have hlb : (y.set (Int.toNat ((y.length : Int) - 1)) w).length = l.length + 1 := by rw [List.length_set, hlen]
  generalize y.set (Int.toNat ((y.length : Int) - 1)) w = u at hb hlb
  refine Lw.pure (getT hb (by omega) (by omega)) fun q hq => ?_
  rw [s_siGood_eq (tinyS_small hq) hk, bind_some]
  refine Lw.cond (fun _ => ?_) (fun _ => Lw.done h ⟨hb, hlb⟩ (by omega))
  refine Lw.pure (getT hb (by omega) (by omega)) fun r hr => ?_
  exact Lw.done h ⟨allT_set hb hr, by rw [List.length_set, hlb]⟩ (by omega)
theorem li_stop {c : List Int} {k n : Nat} : ∀ t s b, liI n b → liBody k c (n : Int) (t, s, b) = some (.inr (t, s, b)) := by
  intro t s l ⟨_, e⟩
  subst e
  unfold liBody
  dsimp only
  rw [decE, cond_false]
theorem signList_ex {c : List Int} {t s : Int} {m k : Nat} (hc : okB8 c) (h : Bg m t) (hm : 10000 ≤ m) (hk : 2000010 ≤ k) : Dw (m - 10000) (fun L : List Sign => L.length ≤ 21 ∧ allT L) (X.s_l1Cur_signList k c t s) := by
  unfold X.s_l1Cur_signList
  refine Dw.bind (pick_ex hc h (by omega)) fun n t s h hn => ?_
  refine Dw.bind (one_ex hc h (by omega)) fun v t s h _ => ?_
  dsimp only
  refine Dw.cond (fun _ => ?_) (fun _ => ?_)
  · refine Dw.bind (pick_ex hc h (by omega)) fun q t s h hq => ?_
    dsimp only
    obtain ⟨q, rfl⟩ := Int.eq_ofNat_of_zero_le hq.1
    rw [wr20 20 q (by omega) (by omega)]
    refine Dw.loop (I := liI) (n := 20 + q) (cost := 210) (m := m - 9000) (body := liBody k c ((20 + q : Nat) : Int)) (li_go hc hk (by omega)) li_stop ⟨fun x hx => (by cases hx), rfl⟩ (by omega) h (by omega) fun t s l h ⟨hl, e⟩ => ?_
    exact (end_ex (l := l) hc h (by omega) hk hl (by omega)).mono (by omega) fun L hL => ⟨by have := hL.1; omega, hL.2⟩
  · obtain ⟨n, rfl⟩ := Int.eq_ofNat_of_zero_le hn.1
    refine Dw.loop (I := liI) (n := n) (cost := 210) (m := m - 9000) (body := liBody k c (n : Int)) (li_go hc hk (by omega)) li_stop ⟨fun x hx => (by cases hx), rfl⟩ (by omega) h (by omega) fun t s l h ⟨hl, e⟩ => ?_
    exact (end_ex (l := l) hc h (by omega) hk hl (by omega)).mono (by omega) fun L hL => ⟨by have := hL.1; omega, hL.2⟩
/-! #### The law -/
theorem qInts_refl (l : List Int) : X.l_qInts l l = some true := by
  unfold X.l_qInts
  rw [bne_self_eq_false, cond_false, range_all0 l]
  · rfl
  · intro i x hx
    rw [getI_of hx, bind_some, bne_self_eq_false, cond_false]
theorem qHas_eq (z : Int) (l : List Int) : X.l_qHas l z = some (decide (z ∈ l)) := has_key z l 0
end Go.Proofs.XC
