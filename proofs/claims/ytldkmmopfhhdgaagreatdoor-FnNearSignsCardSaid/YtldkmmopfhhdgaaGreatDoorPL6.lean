/- Plain laws of the plain functions: no program, no memory. By AI agents; no person has read it. -/
import Derived.Test.YtldkmmopfhhdgaaGreatDoorPL5
import Derived.Test.YtldkmmopfhhdgaaGreatDoorPR4
set_option linter.unusedVariables false
set_option linter.unusedSimpArgs false
set_option maxRecDepth 100000
set_option maxHeartbeats 40000000
namespace Go.Proofs.XC
open Go Go.RowKit
/-! ### Near signs -/
def liI (j : Nat) (l : List Sign) : Prop := allT l ∧ l.length = j
def liBody (k : Nat) (c : List Int) (N : Int) : Int × Int × List Sign → Option ((Int × Int × List Sign) ⊕ (Int × Int × List Sign)) := fun ⟨n2, n3, l4⟩ => (bif decide ((List.length l4 : Int) < N) then (Option.bind (X.s_l1Cur_sign k c n2 n3) fun v6_2 => (Option.bind (appG nSign l4 ([v6_2.1] : List Sign)) fun y6_4 => (bif decide ((List.length y6_4 : Int) > 1) then (Option.bind (X.s_l1Cur_one c v6_2.2.1 v6_2.2.2 3) fun v8_4 => (bif v8_4.1 then (Option.bind (getI y6_4 (wr ((List.length y6_4 : Int) - 2))) fun y9_6 => (Option.bind (getI y6_4 (wr ((List.length y6_4 : Int) - 1))) fun y9_10 => (Option.bind (getI (List.set y6_4 (Int.toNat (wr ((List.length y6_4 : Int) - 1))) ({ y9_10 with Main := { y9_10.Main with Move := y9_6.Main.Move } })) (wr ((List.length y6_4 : Int) - 1))) fun y10_3 => (Option.bind (X.s_siGood k y10_3) fun v10_5 => (bif (!v10_5) then (Option.bind (getI (List.set y6_4 (Int.toNat (wr ((List.length y6_4 : Int) - 1))) ({ y9_10 with Main := { y9_10.Main with Move := y9_6.Main.Move } })) (wr ((List.length y6_4 : Int) - 2))) fun y11_6 => some (.inl (v8_4.2.1, v8_4.2.2, (List.set (List.set y6_4 (Int.toNat (wr ((List.length y6_4 : Int) - 1))) ({ y9_10 with Main := { y9_10.Main with Move := y9_6.Main.Move } })) (Int.toNat (wr ((List.length y6_4 : Int) - 1))) y11_6)))) else some (.inl (v8_4.2.1, v8_4.2.2, (List.set y6_4 (Int.toNat (wr ((List.length y6_4 : Int) - 1))) ({ y9_10 with Main := { y9_10.Main with Move := y9_6.Main.Move } }))))))))) else some (.inl (v8_4.2.1, v8_4.2.2, y6_4)))) else some (.inl (v6_2.2.1, v6_2.2.2, y6_4))))) else some (.inr (n2, n3, l4)))
theorem getT {l : List Sign} {z : Int} (h : allT l) (h1 : 0 ≤ z) (h2 : z < (l.length : Int)) : ∃ x, getI l z = some x ∧ tinyS x := by
  obtain ⟨x, e, hx⟩ := el_ex (l := l) (v := z) (by intro e; subst e; simp at h2; omega) ⟨h1, .inl h2⟩
  exact ⟨x, e, h x hx⟩
theorem li_go {c : List Int} {k : Nat} (hc : okB8 c) (hk : 2000010 ≤ k) {n : Nat} (hn : n ≤ 30) : ∀ t s b j m, j < n → liI j b → Bg (m + 210) t → Lw m (liI (j + 1)) (liBody k c (n : Int) (t, s, b)) := by
  intro t s l j m hj ⟨hl, e⟩ h
  subst e
  unfold liBody
  dsimp only
  rw [decL hj, cond_true]
  refine Lw.bind (sign_ex hc h (by omega) hk) fun v t s h hv => ?_
  dsimp only
  rw [appS1 (by omega), bind_some]
  have ha := allT_app hl hv
  have hlen : (l ++ [v]).length = l.length + 1 := by simp
  generalize l ++ [v] = y at ha hlen
  refine Lw.cond (fun hd => ?_) (fun _ => Lw.done h ⟨ha, hlen⟩ (by omega))
  have hd := of_decide_eq_true hd
  have w1 : wr ((y.length : Int) - 1) = (y.length : Int) - 1 := wr_of (by omega) (by omega)
  have w2 : wr ((y.length : Int) - 2) = (y.length : Int) - 2 := wr_of (by omega) (by omega)
  refine Lw.bind (one_ex hc h (by omega)) fun v2 t s h _ => ?_
  dsimp only
  refine Lw.cond (fun _ => ?_) (fun _ => Lw.done h ⟨ha, hlen⟩ (by omega))
  rw [w1, w2]
  refine Lw.pure (getT ha (by omega) (by omega)) fun x hx => ?_
  refine Lw.pure (getT ha (by omega) (by omega)) fun z hz => ?_
  have hw : tinyS { z with Main := { z.Main with Move := x.Main.Move } } := ⟨hx.1, hz.2⟩
  generalize ({ z with Main := { z.Main with Move := x.Main.Move } } : Sign) = w at hw
  have hb := allT_set (i := Int.toNat ((y.length : Int) - 1)) ha hw
  have hlb : (y.set (Int.toNat ((y.length : Int) - 1)) w).length = l.length + 1 := by rw [List.length_set, hlen]
  generalize y.set (Int.toNat ((y.length : Int) - 1)) w = u at hb hlb
  refine Lw.pure (getT hb (by omega) (by omega)) fun q hq => ?_
  rw [s_siGood_eq (tinyS_small hq) hk, bind_some]
  refine Lw.cond (fun _ => ?_) (fun _ => Lw.done h ⟨hb, hlb⟩ (by omega))
  refine Lw.pure (getT hb (by omega) (by omega)) fun r hr => ?_
  exact Lw.done h ⟨allT_set hb hr, by rw [List.length_set, hlb]⟩ (by omega)
theorem li_stop {c : List Int} {k n : Nat} : ∀ t s b, liI n b → liBody k c (n : Int) (t, s, b) = some (.inr (t, s, b)) := by
  intro t s l ⟨_, e⟩
  subst e
  unfold liBody
  dsimp only
  rw [decE, cond_false]
theorem signList_ex {c : List Int} {t s : Int} {m k : Nat} (hc : okB8 c) (h : Bg m t) (hm : 10000 ≤ m) (hk : 2000010 ≤ k) : Dw (m - 10000) (fun L : List Sign => L.length ≤ 21 ∧ allT L) (X.s_l1Cur_signList k c t s) := by
  unfold X.s_l1Cur_signList
  refine Dw.bind (pick_ex hc h (by omega)) fun n t s h hn => ?_
  refine Dw.bind (one_ex hc h (by omega)) fun v t s h _ => ?_
  dsimp only
  refine Dw.cond (fun _ => ?_) (fun _ => ?_)
  · refine Dw.bind (pick_ex hc h (by omega)) fun q t s h hq => ?_
    dsimp only
    obtain ⟨q, rfl⟩ := Int.eq_ofNat_of_zero_le hq.1
    rw [wr20 20 q (by omega) (by omega)]
    refine Dw.loop (I := liI) (n := 20 + q) (cost := 210) (m := m - 9000) (body := liBody k c ((20 + q : Nat) : Int)) (li_go hc hk (by omega)) li_stop ⟨fun x hx => (by cases hx), rfl⟩ (by omega) h (by omega) fun t s l h ⟨hl, e⟩ => ?_
    exact (end_ex (l := l) hc h (by omega) hk hl (by omega)).mono (by omega) fun L hL => ⟨by have := hL.1; omega, hL.2⟩
  · obtain ⟨n, rfl⟩ := Int.eq_ofNat_of_zero_le hn.1
    refine Dw.loop (I := liI) (n := n) (cost := 210) (m := m - 9000) (body := liBody k c (n : Int)) (li_go hc hk (by omega)) li_stop ⟨fun x hx => (by cases hx), rfl⟩ (by omega) h (by omega) fun t s l h ⟨hl, e⟩ => ?_
    exact (end_ex (l := l) hc h (by omega) hk hl (by omega)).mono (by omega) fun L hL => ⟨by have := hL.1; omega, hL.2⟩
theorem nearest_ex {c : List Int} {k : Nat} (hc : okB8 c) (hk : 2000010 ≤ k) : ∃ L x, X.s_DrawNearestSign k c = some (L, x) ∧ L.length ≤ 21 ∧ allT L ∧ tinyS x := by
  unfold X.s_DrawNearestSign
  obtain ⟨L, t, s, e, h, hn, hL⟩ := signList_ex (s := 0) hc Bg.start (by omega) hk
  rw [e, bind_some]
  dsimp only
  have any : ∀ (t s : Int), Bg 1000 t → ∃ L' x, (Option.bind (X.s_l1Cur_anySign k c t s) fun v6_2 => some (L, v6_2.1)) = some (L', x) ∧ L'.length ≤ 21 ∧ allT L' ∧ tinyS x := by
    intro t s h
    obtain ⟨x, t, s, e, h, hx⟩ := anySign_ex (s := s) hc h (by omega) hk
    rw [e]
    exact ⟨L, x, rfl, hn, hL, hx⟩
  by_cases h0 : (L.length : Int) > 0
  · rw [decide_eq_true h0, cond_true]
    obtain ⟨v, t, s, e, h, _⟩ := one_ex (s := s) (n := 3) hc h (by omega)
    rw [e, bind_some]
    dsimp only
    cases v
    · exact any _ _ (h.le (by omega))
    · obtain ⟨v, t, s, e, h, hv⟩ := pick_ex (s := s) (n := (L.length : Int)) hc h (by omega)
      rw [cond_true, e, bind_some]
      dsimp only
      obtain ⟨x, e, hx⟩ := getT (z := v) hL hv.1 (by have := hv.2; omega)
      rw [e]
      exact ⟨L, x, rfl, hn, hL, hx⟩
  · rw [decide_eq_false h0]
    exact any _ _ (h.le (by omega))
theorem within_ex {c : List Int} {k : Nat} (hc : okB8 c) (hk : 2000010 ≤ k) : ∃ L x n, X.s_DrawSignsWithin k c = some (L, x, n) ∧ L.length ≤ 21 ∧ allT L ∧ tinyS x := by
  unfold X.s_DrawSignsWithin
  obtain ⟨L, x, e, hn, hL, hx⟩ := nearest_ex hc hk
  rw [e, bind_some]
  dsimp only
  obtain ⟨v, t, s, e, h, _⟩ := among_ex (s := 0) (l := ([1, (-1), 101] : List Int)) hc Bg.start (by omega) (by simp)
  rw [e, bind_some]
  dsimp only
  obtain ⟨v, t, s, e, h, _⟩ := among_ex (s := s) (l := ([0, 3, 6, 12, 100, v] : List Int)) hc h (by omega) (by simp)
  rw [e]
  exact ⟨L, x, v, rfl, hn, hL, hx⟩
theorem tableDraw_ex {c : List Int} {k : Nat} (hc : okB8 c) (hk : 2000010 ≤ k) : ∃ L, X.s_DrawDistanceTable k c = some L ∧ L.length ≤ 21 ∧ allT L := by
  unfold X.s_DrawDistanceTable X.s_DrawSignsText
  obtain ⟨L, t, s, e, h, hL⟩ := signList_ex (s := 0) hc Bg.start (by omega) hk
  rw [e]
  exact ⟨L, rfl, hL⟩
/-! #### The law -/
theorem qInts_refl (l : List Int) : X.l_qInts l l = some true := by
  unfold X.l_qInts
  rw [bne_self_eq_false, cond_false, range_all0 l]
  · rfl
  · intro i x hx
    rw [getI_of hx, bind_some, bne_self_eq_false, cond_false]
theorem qLists_refl (l : List (List Int)) : X.l_qLists l l = some true := by
  unfold X.l_qLists
  rw [bne_self_eq_false, cond_false, range_all0 l]
  · rfl
  · intro i x hx
    rw [getI_of hx, bind_some, qInts_refl, bind_some, Bool.not_true, cond_false]
theorem qHas_eq (z : Int) (l : List Int) : X.l_qHas l z = some (decide (z ∈ l)) := pIn_eq z l
theorem lt0 (a : Int) : ltB a a = false := by unfold ltB; simp
theorem lt1 (a b d : Int) (h1 : ltB a b = true) (h2 : ltB a d = false) : ltB b d = false := by
  unfold ltB at *; simp only [decide_eq_true_iff, decide_eq_false_iff_not] at *; omega
theorem lt2 (a b d : Int) (h1 : ltB a b = false) (h2 : ltB b d = false) : ltB a d = false := by
  unfold ltB at *; simp only [decide_eq_false_iff_not] at *; omega
theorem near_best (f : Sign → Int) (y : Sign) (l : List Sign) : (∀ x ∈ y :: l, (arg ltB f (y :: l) 0 (0, f y)).2 ≤ f x) ∧ ∃ (i : Nat) (x : Sign), (y :: l)[i]? = some x ∧ arg ltB f (y :: l) 0 (0, f y) = ((i : Int), f x) := by
  obtain ⟨a1, a2, a3⟩ := arg_best lt0 lt1 lt2 f (y :: l) 0 (0, f y)
  refine ⟨fun x hx => ?_, ?_⟩
  · have := a1 x hx
    unfold ltB at this
    rw [decide_eq_false_iff_not] at this
    unfold ltB
    omega
  · rcases a3 with a3 | ⟨i, x, hx, a3⟩
    · exact ⟨0, y, rfl, a3⟩
    · exact ⟨i, x, hx, by rw [a3, Nat.zero_add]⟩
theorem mid_best (f : Sign → Int) (y : Sign) (l : List Sign) : (∀ x ∈ y :: l, (rng (mid f) (y :: l) 0 (-1, 0)).2 ≤ f x) ∧ ∃ (i : Nat) (x : Sign), (y :: l)[i]? = some x ∧ rng (mid f) (y :: l) 0 (-1, 0) = ((i : Int), f x) := by
  have e : rng (mid f) (y :: l) 0 (-1, 0) = arg ltB f l 1 (0, f y) := by
    rw [rng]
    have : mid f 0 y (-1, 0) = (0, f y) := by
      unfold mid
      rw [if_pos (.inl (by decide))]
      rfl
    rw [this, mid_arg _ _ _ _ (by simp)]
    rfl
  rw [e]
  obtain ⟨a1, a2, a3⟩ := arg_best lt0 lt1 lt2 f l 1 (0, f y)
  refine ⟨fun x hx => ?_, ?_⟩
  · rcases List.mem_cons.1 hx with rfl | hx
    · unfold ltB at a2
      rw [decide_eq_false_iff_not] at a2
      unfold ltB
      dsimp only at a2
      omega
    · have := a1 x hx
      unfold ltB at this
      rw [decide_eq_false_iff_not] at this
      unfold ltB
      omega
  · rcases a3 with a3 | ⟨i, x, hx, a3⟩
    · exact ⟨0, y, rfl, a3⟩
    · exact ⟨i + 1, x, hx, by rw [a3, Nat.add_comm 1 i]⟩
theorem fp_in (f : Sign → Int) (i : Nat) : ∀ (l : List Sign) (k : Nat) (s : Int × Int × Int), s.2.2 ≤ (rng (fun k y s => fpS f i k y s) l k s).2.2 ∧ (∀ y ∈ l, f y ≤ (rng (fun k y s => fpS f i k y s) l k s).2.2) ∧ (rng (fun k y s => fpS f i k y s) l k s = s ∨ ∃ (q : Nat) (y : Sign), l[q]? = some y ∧ rng (fun k y s => fpS f i k y s) l k s = ((i : Int), ((k + q : Nat) : Int), f y))
  | [], k, s => ⟨Int.le_refl _, fun x hx => (by cases hx), .inl rfl⟩
  | y :: l, k, s => by
    rw [rng]
    obtain ⟨a1, a2, a3⟩ := fp_in f i l (k + 1) (fpS f i k y s)
    generalize rng (fun k y s => fpS f i k y s) l (k + 1) (fpS f i k y s) = r at a1 a2 a3
    have hs : s.2.2 ≤ (fpS f i k y s).2.2 ∧ f y ≤ (fpS f i k y s).2.2 ∧ (fpS f i k y s = s ∨ fpS f i k y s = ((i : Int), (k : Int), f y)) := by
      unfold fpS
      by_cases h : f y > s.2.2
      · rw [if_pos h]; exact ⟨by dsimp only; omega, Int.le_refl _, .inr rfl⟩
      · rw [if_neg h]; exact ⟨Int.le_refl _, by omega, .inl rfl⟩
    obtain ⟨b1, b2, b3⟩ := hs
    refine ⟨by omega, fun z hz => ?_, ?_⟩
    · rcases List.mem_cons.1 hz with rfl | hz
      · omega
      · exact a2 z hz
    · rcases a3 with a3 | ⟨q, z, hz, a3⟩
      · rcases b3 with b3 | b3
        · exact .inl (by rw [a3, b3])
        · exact .inr ⟨0, y, rfl, by rw [a3, b3]; rfl⟩
      · exact .inr ⟨q + 1, z, hz, by rw [a3, Nat.add_assoc, Nat.add_comm 1 q]⟩
theorem fp_out (L : List Sign) : ∀ (l : List Sign) (j : Nat) (s : Int × Int × Int), L.drop j = l → s.2.2 ≤ (rng (fun i x s => rng (fun k y s => fpS (farG x) i k y s) (L.drop (i + 1)) (i + 1) s) l j s).2.2 ∧ (∀ (a b : Nat) (x y : Sign), a < b → l[a]? = some x → l[b]? = some y → farG x y ≤ (rng (fun i x s => rng (fun k y s => fpS (farG x) i k y s) (L.drop (i + 1)) (i + 1) s) l j s).2.2) ∧ (rng (fun i x s => rng (fun k y s => fpS (farG x) i k y s) (L.drop (i + 1)) (i + 1) s) l j s = s ∨ ∃ (a b : Nat) (x y : Sign), a < b ∧ l[a]? = some x ∧ l[b]? = some y ∧ rng (fun i x s => rng (fun k y s => fpS (farG x) i k y s) (L.drop (i + 1)) (i + 1) s) l j s = (((j + a : Nat) : Int), ((j + b : Nat) : Int), farG x y))
  | [], j, s, _ => ⟨Int.le_refl _, fun a b x y _ hx => (by simp at hx), .inl rfl⟩
  | x :: l, j, s, h => by
    have hd : L.drop (j + 1) = l := by rw [← List.drop_drop, h]; rfl
    rw [rng, hd]
    obtain ⟨b1, b2, b3⟩ := fp_in (farG x) j l (j + 1) s
    generalize rng (fun k y s => fpS (farG x) j k y s) l (j + 1) s = s1 at b1 b2 b3
    obtain ⟨a1, a2, a3⟩ := fp_out L l (j + 1) s1 hd
    generalize rng (fun i x s => rng (fun k y s => fpS (farG x) i k y s) (L.drop (i + 1)) (i + 1) s) l (j + 1) s1 = r at a1 a2 a3
    refine ⟨by omega, fun a b u v hab hu hv => ?_, ?_⟩
    · cases b with
      | zero => omega
      | succ b =>
        have hv : l[b]? = some v := hv
        cases a with
        | zero =>
          have hu : some x = some u := hu
          cases hu
          have := b2 v (List.mem_of_getElem? hv)
          omega
        | succ a => exact a2 a b u v (by omega) hu hv
    · rcases a3 with a3 | ⟨a, b, u, v, hab, hu, hv, a3⟩
      · rcases b3 with b3 | ⟨q, y, hy, b3⟩
        · exact .inl (by rw [a3, b3])
        · exact .inr ⟨0, q + 1, x, y, by omega, rfl, hy, by rw [a3, b3, Nat.add_assoc, Nat.add_comm 1 q]; rfl⟩
      · exact .inr ⟨a + 1, b + 1, u, v, by omega, hu, hv, by rw [a3, Nat.add_assoc, Nat.add_comm 1 a, Nat.add_assoc, Nat.add_comm 1 b]⟩
theorem far_best {L : List Sign} (hg : ∀ s ∈ L, gSign s = true) (h : 2 ≤ L.length) : (∀ (a b : Nat) (x y : Sign), a < b → L[a]? = some x → L[b]? = some y → farG x y ≤ (fpP L (0, 0, -1)).2.2) ∧ ∃ (a b : Nat) (x y : Sign), L[a]? = some x ∧ L[b]? = some y ∧ fpP L (0, 0, -1) = ((a : Int), (b : Int), farG x y) := by
  unfold fpP
  obtain ⟨a1, a2, a3⟩ := fp_out L L 0 (0, 0, -1) rfl
  refine ⟨a2, ?_⟩
  rcases a3 with a3 | ⟨a, b, x, y, hab, hx, hy, a3⟩
  · exfalso
    match L, h with
    | x :: y :: l, _ =>
      have h2 := a2 0 1 x y (by omega) rfl rfl
      rw [a3] at h2
      have h3 := (farG_eqs (k := 100) (hg x List.mem_cons_self) (hg y (List.mem_cons_of_mem _ List.mem_cons_self)) (by omega)).2.2.1
      dsimp only at h2
      omega
  · exact ⟨a, b, x, y, hx, hy, by rw [a3, Nat.zero_add, Nat.zero_add]⟩
theorem range_sum {α ρ : Type} {body : Int → Int → Int → Option (Int ⊕ ρ)} {fin : Int → Option ρ} : ∀ (l : List Int) (j : Nat) (n : Int), (∀ (i : Nat) x n, l[i]? = some x → body ((j + i : Nat) : Int) x n = some (.inl (wr (n + x)))) → rangeM body fin l j n = fin (rng (fun _ x n => wr (n + x)) l j n)
  | [], j, n, _ => rfl
  | x :: l, j, n, h => by
    have h0 := h 0 x n rfl
    rw [Nat.add_zero] at h0
    rw [rangeM_cons, h0, rng]
    exact range_sum (α := α) l (j + 1) _ fun i y m hy => by
      rw [Nat.add_assoc, Nat.add_comm 1 i]
      exact h (i + 1) y m hy
theorem range_sum0 {ρ : Type} {body : Int → Int → Int → Option (Int ⊕ ρ)} {fin : Int → Option ρ} (l : List Int) (h : ∀ (i : Nat) x n, l[i]? = some x → body (i : Int) x n = some (.inl (wr (n + x)))) : rangeM body fin l 0 0 = fin (sumW l) := range_sum (α := Unit) l 0 0 fun i x n hx => by rw [Nat.zero_add]; exact h i x n hx
theorem Pure.FnNearSigns (c : List Int) (o_c : okL okY c) (d : List Int) (o_d : okL okY d) : X.l_FnNearSigns 3000000 c d = some true := by
  have hc := okB8_of o_c
  have hd := okB8_of o_d
  unfold X.l_FnNearSigns
  cases decide ((wr ((List.length c : Int) + (List.length d : Int))) > 1048576) with
  | true => rfl
  | false =>
  rw [cond_false]
  obtain ⟨L, s, e, hn, hL, hs0⟩ := nearest_ex (k := 3000000) hc (by omega)
  have hs : ∀ s ∈ L, smallS s := fun s h => tinyS_small (hL s h)
  have ss := tinyS_small hs0
  rw [e, bind_some]
  dsimp only
  rw [i_Near_eq hs ss (by omega) (by omega), bind_some, s_Near_eq hs ss (by omega) (by omega), bind_some]
  obtain ⟨M, s2, n, e, hn2, hM, hs2⟩ := within_ex (k := 3000000) hd (by omega)
  have hsM : ∀ s ∈ M, smallS s := fun s h => tinyS_small (hM s h)
  have ss2 := tinyS_small hs2
  rw [e, bind_some]
  dsimp only
  rw [i_Within_eq n hsM ss2 (by omega) (by omega), bind_some, s_Within_eq n hsM ss2 (by omega) (by omega), bind_some]
  obtain ⟨T, e, hn3, hT⟩ := tableDraw_ex (k := 3000000) hd (by omega)
  have hsT : ∀ s ∈ T, smallS s := fun s h => tinyS_small (hT s h)
  rw [e, bind_some, i_Tab_eq hsT (by omega), bind_some, s_Tab_eq hsT (by omega), bind_some, i_Mid_eq hsT (by omega), bind_some, s_Mid_eq hsT (by omega), bind_some, i_Far_eq hsT (by omega), bind_some, s_Far_eq hsT (by omega), bind_some]
  refine bindB (v := false) ?_ ?_
  · simp only [beq_self_eq_true, Bool.not_true, cond_false, qLists_refl, qInts_refl, bind_some, bne_self_eq_false]
    unfold vTab vMid vFarPair
    by_cases g : (T.all gSign && decide (T.length ≤ 20)) = true
    · match T with
      | [] => rfl
      | [x] => simp only [g, if_true, Bool.true_and]; simp
      | x :: y :: T => simp only [g, if_true, Bool.true_and]; simp [show ¬ ((T.length : Int) + 1 + 1 < 2) by omega, show (0 : Int) < (T.length : Int) + 1 + 1 by omega, show (1 : Int) < (T.length : Int) + 1 + 1 by omega]
    · rw [Bool.not_eq_true] at g
      simp [g]
  rw [cond_false]
  have andd : ∀ {a b : Bool}, (a && b) = true → a = true ∧ b = true := fun {a b} h => by rw [Bool.and_eq_true] at h; exact h
  refine orElB (v := ()) ?_ ?_
  · by_cases g : (L.all gSign && decide (L.length ≤ 20) && gSign s) = true
    · cases L with
      | nil => unfold vNear; rw [if_pos g]; rfl
      | cons y L =>
      obtain ⟨g1, gs⟩ := andd g
      obtain ⟨g1, _⟩ := andd g1
      rw [List.all_eq_true] at g1
      obtain ⟨hb, i, x, hx, hr⟩ := near_best (fN s) y L
      have mx := List.mem_of_getElem? hx
      have e1 : vNear (y :: L) s = ((i : Int), farG x s, true) := by
        unfold vNear
        rw [if_pos g]
        dsimp only
        rw [hr]
        rfl
      have hfar : ∀ z ∈ y :: L, vFar z s = (farG z s, true) := fun z hz => by
        unfold vFar
        rw [g1 z hz, gs]
        rfl
      rw [e1]
      dsimp only
      rw [cond_true, getI_of hx, bind_some, i_SignDistance_eq (hs x mx) ss (by omega), bind_some, hfar x mx]
      refine bindB (v := false) ?_ ?_
      · simp
      rw [cond_false]
      refine orElB (v := ()) ?_ rfl
      rw [range_all0]
      intro q z hz
      have mz := List.mem_of_getElem? hz
      have hle := hb z mz
      rw [hr] at hle
      dsimp only at hle
      unfold fN at hle
      rw [s_SignDistance_eq (hs z mz) ss (by omega), bind_some, hfar z mz]
      dsimp only
      rw [decide_eq_false (by omega)]
      rfl
    · unfold vNear
      rw [if_neg g]
      rfl
  refine orElB (v := ()) ?_ ?_
  · by_cases g : (M.all gSign && decide (M.length ≤ 20) && gSign s2 && inR n 0 100) = true
    · obtain ⟨g1, _⟩ := andd g
      obtain ⟨g1, gs⟩ := andd g1
      obtain ⟨g1, _⟩ := andd g1
      rw [List.all_eq_true] at g1
      have e1 : vWithin M s2 n = (ixs (fun x => decide (farG x s2 ≤ n)) M 0, true) := by
        unfold vWithin
        rw [if_pos g]
      rw [e1]
      dsimp only
      rw [cond_true]
      refine orElB (v := ()) ?_ rfl
      rw [range_all0]
      intro q z hz
      have mz := List.mem_of_getElem? hz
      have hfar : vFar z s2 = (farG z s2, true) := by
        unfold vFar
        rw [g1 z mz, gs]
        rfl
      rw [s_SignDistance_eq (hsM z mz) ss2 (by omega), bind_some, hfar]
      dsimp only
      rw [Bool.not_true, cond_false, qHas_eq, bind_some, at_ixs hz, beq_self_eq_true]
      rfl
    · unfold vWithin
      rw [if_neg g]
      rfl
  by_cases g : (T.all gSign && decide (T.length ≤ 20)) = true
  · obtain ⟨g1, gl⟩ := andd g
    rw [List.all_eq_true] at g1
    have e1 : vTab T = (tab T, true) := by unfold vTab; rw [if_pos g]
    have hlow : T.length < 2 → vFarPair T = (0, 0, 0, false) := fun h => by
      unfold vFarPair
      rw [g, decide_eq_true (by omega)]
      rfl
    have hfp : 2 ≤ T.length → vFarPair T = ((fpP T (0, 0, -1)).1, (fpP T (0, 0, -1)).2.1, (fpP T (0, 0, -1)).2.2, true) := fun h => by
      unfold vFarPair
      rw [g, decide_eq_false (by omega)]
      rfl
    rw [e1]
    dsimp only
    rw [cond_true]
    refine orElB (v := ()) ?_ ?_
    · rw [range_all0]
      intro i r hr
      have hi : i < T.length := by have := some_len hr; unfold tab at this; simpa using this
      obtain ⟨x, hx⟩ : ∃ x, T[i]? = some x := ⟨T[i], List.getElem?_eq_getElem hi⟩
      have mx := List.mem_of_getElem? hx
      have er : r = T.map (farG x) := by
        unfold tab at hr
        rw [List.getElem?_map, hx] at hr
        simpa using hr.symm
      subst er
      refine orElB (v := sumW (T.map (farG x))) ?_ ?_
      · rw [range_sum0]
        intro j w acc hw
        have hj : j < T.length := by have := some_len hw; simpa using this
        obtain ⟨y, hy⟩ : ∃ y, T[j]? = some y := ⟨T[j], List.getElem?_eq_getElem hj⟩
        have my := List.mem_of_getElem? hy
        have ew : w = farG x y := by
          rw [List.getElem?_map, hy] at hw
          simpa using hw.symm
        subst ew
        rw [tab_get hy, bind_some, row_get hx, bind_some, farG_comm (g1 y my) (g1 x mx), bne_self_eq_false, cond_false]
        by_cases hij : i = j
        · subst hij
          rw [hx] at hy
          cases hy
          have hz : farG x x = 0 := (farG_zero (g1 x mx) (g1 x mx)).2 rfl
          rw [beq_self_eq_true, cond_true, hz, bne_self_eq_false, cond_false]
          by_cases h2 : T.length < 2
          · rw [hlow h2]
            rfl
          · obtain ⟨_, a, b, u, v, hu, hv, hf⟩ := far_best g1 (by omega)
            have := (farG_eqs (k := 100) (g1 u (List.mem_of_getElem? hu)) (g1 v (List.mem_of_getElem? hv)) (by omega)).2.2.1
            rw [hfp (by omega), hf]
            dsimp only
            rw [cond_true, decide_eq_false (by omega)]
            rfl
        · have hne : ((i : Int) == (j : Int)) = false := beq_eq_false_iff_ne.2 (by omega)
          rw [hne, cond_false]
          have h2 : 2 ≤ T.length := by omega
          obtain ⟨hm, _⟩ := far_best g1 h2
          have hle : farG x y ≤ (fpP T (0, 0, -1)).2.2 := by
            rcases Nat.lt_or_ge i j with h | h
            · exact hm i j x y h hx hy
            · rw [farG_comm (g1 x mx) (g1 y my)]
              exact hm j i y x (by omega) hy hx
          rw [hfp h2]
          dsimp only
          rw [cond_true, decide_eq_false (by omega)]
          rfl
      cases T with
      | nil => cases mx
      | cons t0 T =>
      obtain ⟨hb, q, z, hz, hq⟩ := mid_best (fS (t0 :: T)) t0 T
      have hmo : vMid (t0 :: T) = ((q : Int), fS (t0 :: T) z, true) := by
        unfold vMid
        rw [g, hq]
        rfl
      have hle := hb x mx
      rw [hq] at hle
      dsimp only at hle
      rw [hmo]
      dsimp only
      have efs : fS (t0 :: T) x = sumW ((t0 :: T).map (farG x)) := rfl
      rw [← efs, decide_eq_false (by omega), cond_false]
      by_cases hiq : i = q
      · subst hiq
        rw [hx] at hz
        cases hz
        rw [beq_self_eq_true, bne_self_eq_false]
        rfl
      · have : ((i : Int) == (q : Int)) = false := beq_eq_false_iff_ne.2 (by omega)
        rw [this, cond_false]
    · by_cases h2 : T.length < 2
      · rw [hlow h2]
        rfl
      · obtain ⟨_, a, b, u, v, hu, hv, hf⟩ := far_best g1 (by omega)
        rw [hfp (by omega), hf]
        dsimp only
        rw [cond_true, tab_get hu, bind_some, row_get hv, bind_some, bne_self_eq_false]
        rfl
  · have e1 : vTab T = ([], false) := by unfold vTab; rw [if_neg g]
    rw [e1]
    rfl
end Go.Proofs.XC
