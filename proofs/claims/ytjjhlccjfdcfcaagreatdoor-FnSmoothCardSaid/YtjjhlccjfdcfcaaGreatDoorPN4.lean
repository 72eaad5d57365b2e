/- Plain laws of the plain functions: no program, no memory. By AI agents; no person has read it. -/
import Derived.Test.YtjjhlccjfdcfcaaGreatDoorPN3
import Derived.Test.YtjjhlccjfdcfcaaGreatDoorPZ3
import Derived.Test.YtjjhlccjfdcfcaaGreatDoorPL8
import Derived.Test.YtjjhlccjfdcfcaaGreatDoorPQ4
set_option linter.unusedVariables false
set_option linter.unusedSimpArgs false
set_option maxRecDepth 100000
set_option maxHeartbeats 40000000
namespace Go.Proofs.XC
open Go Go.RowKit
/-! ### Gaps and times -/
def vGap (a b : Sign) : Int × Bool := if gSign a && gSign b then (gp a b, true) else (0, false)
theorem i_Gap_eq {k : Nat} {a b : Sign} (ha : smallS a) (hb : smallS b) (hk : 10 ≤ k) : X.i_GapOfSigns k a b = some (vGap a b) := by
  unfold X.i_GapOfSigns vGap
  rw [i_IsSign_eq ha hk, bind_some, i_IsSign_eq hb hk, bind_some]
  cases ga : gSign a
  · rfl
  cases gb : gSign b
  · rfl
  rw [(gap_eqs ga gb).1]
  rfl
theorem s_Gap_eq {k : Nat} {a b : Sign} (ha : smallS a) (hb : smallS b) (hk : 2000010 ≤ k) : X.s_GapOfSigns k a b = some (vGap a b) := by
  unfold X.s_GapOfSigns X.s_feBoth vGap
  rw [s_siGood_eq ha hk, s_siGood_eq hb hk, bind_some, bind_some]
  cases ga : gSign a
  · rfl
  cases gb : gSign b
  · rfl
  rw [(gap_eqs ga gb).2.1]
  rfl
theorem ab_symm (x y : Int) : ab x y = ab y x := by
  unfold ab
  split <;> split <;> omega
theorem beq_symm {α : Type} [BEq α] [LawfulBEq α] (a b : α) : (a == b) = (b == a) := by
  rw [Bool.eq_iff_iff, beq_iff_eq, beq_iff_eq]
  exact ⟨fun h => h.symm, fun h => h.symm⟩
theorem gp_symm (a b : Sign) : gp a b = gp b a := by
  unfold gp farP
  rw [ab_symm a.Main.Place.Side, ab_symm a.Main.Place.Region, beq_symm a.Main.Place.Contact, beq_symm a.Two, beq_symm (a.Main.Place.Region == 0)]
theorem vGap_symm (a b : Sign) : vGap a b = vGap b a := by
  unfold vGap
  rw [gp_symm a b, Bool.and_comm]
theorem stepsS_le {s : Sign} (g : gSign s = true) : stepsS s ≤ 18 := by
  have h1 := all_len (gHand_iff.1 (gSign_main g)).2.2.2
  have h2 : (allSteps s.Other.Move).length ≤ 18 := by
    cases h : s.Two with
    | false => rw [gSign_none g h]; decide +kernel
    | true => exact all_len (gHand_iff.1 (gSign_other g h).1).2.2.2
  unfold stepsS
  omega
def st_ : List Sign → Int
  | [] => 0
  | x :: t => (stepsS x : Int) + 1 + st_ t
theorem st_bd : ∀ (l : List Sign), (∀ x ∈ l, gSign x = true) → 0 ≤ st_ l ∧ st_ l ≤ 19 * (l.length : Int)
  | [], _ => by simp [st_]
  | x :: t, h => by
    have h1 := st_bd t fun y hy => h y (List.mem_cons_of_mem _ hy)
    have h2 := stepsS_le (h x List.mem_cons_self)
    rw [st_]
    simp only [List.length_cons]
    omega
theorem st_snoc : ∀ (l : List Sign) (x : Sign), st_ (l ++ [x]) = st_ l + ((stepsS x : Int) + 1)
  | [], x => by simp [st_]
  | y :: l, x => by
    rw [List.cons_append, st_, st_, st_snoc l x]
    omega
def vTime (l : List Sign) : Int × Bool := if gMade l = true then (st_ l + gs l, true) else (0, false)
theorem i_time_loop (l : List Sign) : ∀ (r : List Sign) (j : Nat) (acc : Int), (∀ x ∈ r, gSign x = true) → 0 ≤ acc → acc + 19 * (r.length : Int) ≤ 1000000000 →
    rangeM (fun (j5 : Int) (x6 : Sign) (n2 : Int) => (Option.bind (X.i_Sign_steps x6) fun v7_2 => some (Sum.inl (wr (n2 + (wr (v7_2 + 1))))))) (fun n2 => some n2) r j acc = some (acc + st_ r)
  | [], j, acc, _, _, _ => by simp [rangeM_nil, st_]
  | x :: r, j, acc, hg, h0, h1 => by
    have hx := hg x List.mem_cons_self
    have hs := stepsS_le hx
    simp only [List.length_cons] at h1
    rw [rangeM_cons, i_steps_eq hx, bind_some, bind_some]
    dsimp only
    rw [wr_of (z := (stepsS x : Int) + 1) (by omega) (by omega), wr_of (by omega) (by omega), i_time_loop l r (j + 1) _ (fun y hy => hg y (List.mem_cons_of_mem _ hy)) (by omega) (by omega), st_]
    congr 1
    omega
theorem i_Time_eq {k : Nat} {l : List Sign} (hs : ∀ x ∈ l, smallS x) (hk : 5000 ≤ k) : X.i_CompoundTime k l = some (vTime l) := by
  unfold X.i_CompoundTime vTime
  rw [i_isMade_eq hs (by omega), bind_some]
  cases hg : gMade l
  · rfl
  have hm := gMade_mem hg
  have hl := gMade_len hg
  have hb := gs_bd l hm
  rw [Bool.not_true, cond_false, i_gapsIn_eq l (by omega) hm (by omega), bind_some, i_time_loop l l 0 _ hm hb.1 (by omega), bind_some, if_pos rfl]
  congr 2
  omega
theorem s_time_loop {k : Nat} (hk : 10 ≤ k) (l : List Sign) (hl : l.length ≤ 100) (hg : ∀ x ∈ l, gSign x = true) : ∀ (r : List Sign) (p : Sign) (j : Nat) (acc : Int), l.drop j = p :: r → 0 ≤ acc → acc + 2019 * (r.length : Int) ≤ 1000000000 →
    rangeM (fun (j5 : Int) (x6 : Sign) (n2 : Int) => (Option.bind (X.s_ruSteps k x6) fun v7_2 => (bif decide ((j5 : Int) > 0) then (Option.bind (getI l (wr ((j5 : Int) - 1))) fun y9_4 => (Option.bind (X.s_cmGap y9_4 x6) fun v9_7 => some (Sum.inl (wr ((wr (n2 + (wr (v7_2 + 1)))) + v9_7))))) else some (Sum.inl (wr (n2 + (wr (v7_2 + 1)))))))) (fun n2 => some n2) r (j + 1) acc = some (acc + st_ r + gs (p :: r))
  | [], p, j, acc, hd, h0, h1 => by simp [rangeM_nil, st_, gs]
  | x :: r, p, j, acc, hd, h0, h1 => by
    obtain ⟨hp, hd2⟩ := get_at hd
    obtain ⟨hx, hd3⟩ := get_at hd2
    have gx := hg x (List.mem_of_getElem? hx)
    have gpp := hg p (List.mem_of_getElem? hp)
    have hlt := some_len hx
    have hs := stepsS_le gx
    obtain ⟨_, e2, g0, g1⟩ := gap_eqs gpp gx
    simp only [List.length_cons] at h1
    have dj : decide (((j + 1 : Nat) : Int) > 0) = true := decide_eq_true (by omega)
    have ej : wr (((j + 1 : Nat) : Int) - 1) = (j : Int) := by rw [wr_of (by omega) (by omega)]; omega
    rw [rangeM_cons, s_steps_eq gx hk, bind_some, dj, cond_true, ej, getI_of hp, bind_some, e2, bind_some, bind_some]
    dsimp only
    rw [wr_of (z := (stepsS x : Int) + 1) (by omega) (by omega), wr_of (z := acc + ((stepsS x : Int) + 1)) (by omega) (by omega), wr_of (by omega) (by omega), s_time_loop hk l hl hg r x (j + 1) _ hd2 (by omega) (by omega), st_, gs]
    congr 1
    omega
theorem s_Time_eq {k : Nat} {l : List Sign} (hs : ∀ x ∈ l, smallS x) (hk : 2000010 ≤ k) : X.s_CompoundTime k l = some (vTime l) := by
  unfold X.s_CompoundTime vTime
  rw [s_cmGood_eq hs hk, bind_some]
  cases hg : gMade l
  · rfl
  have hm := gMade_mem hg
  have hl := gMade_len hg
  match l, hm, hl with
  | p :: r, hm, hl =>
    have gx := hm p List.mem_cons_self
    have hs2 := stepsS_le gx
    have dj : decide (((0 : Nat) : Int) > 0) = false := rfl
    simp only [List.length_cons] at hl
    rw [Bool.not_true, cond_false, rangeM_cons, s_steps_eq gx (by omega), bind_some, dj, cond_false, bind_some]
    dsimp only
    rw [wr_of (z := (stepsS p : Int) + 1) (by omega) (by omega), wr_of (by omega) (by omega)]
    refine bindB (s_time_loop (k := k) (by omega) (p :: r) (by simp; omega) hm r p 0 _ rfl (by omega) (by omega)) ?_
    rw [if_pos rfl, st_]
    congr 2
    omega
/-! ### The best order is no worse than any -/
theorem fold_best (l : List Sign) : ∀ (L : List (List Int)) (s : Int × List Int), s.2 ≠ [] → s.1 = gs (sg l s.2) → (∀ o ∈ L, o ≠ []) →
    (L.foldl (stp l) s).2 ≠ [] ∧ (L.foldl (stp l) s).1 = gs (sg l (L.foldl (stp l) s).2) ∧ (L.foldl (stp l) s).1 ≤ s.1 ∧ ∀ o ∈ L, (L.foldl (stp l) s).1 ≤ gs (sg l o)
  | [], s, h1, h2, _ => ⟨h1, h2, Int.le_refl _, fun o ho => by cases ho⟩
  | o :: L, s, h1, h2, hL => by
    have he : s.2.isEmpty = false := by
      cases hs : s.2 with
      | nil => exact absurd hs h1
      | cons a t => rfl
    have key : (stp l s o).2 ≠ [] ∧ (stp l s o).1 = gs (sg l (stp l s o).2) ∧ (stp l s o).1 ≤ s.1 ∧ (stp l s o).1 ≤ gs (sg l o) := by
      unfold stp
      rw [he, Bool.false_or]
      by_cases hd : gs (sg l o) < s.1
      · rw [decide_eq_true hd, cond_true]
        exact ⟨hL o List.mem_cons_self, rfl, by dsimp only; omega, Int.le_refl _⟩
      · rw [decide_eq_false hd, cond_false]
        exact ⟨h1, h2, Int.le_refl _, by omega⟩
    obtain ⟨a1, a2, a3, a4⟩ := key
    obtain ⟨b1, b2, b3, b4⟩ := fold_best l L (stp l s o) a1 a2 fun q hq => hL q (List.mem_cons_of_mem _ hq)
    rw [List.foldl_cons]
    refine ⟨b1, b2, by omega, fun q hq => ?_⟩
    rcases List.mem_cons.1 hq with rfl | hq
    · omega
    · exact b4 q hq
def idO (n : Nat) : List Int := (List.range' 0 n).map fun (j : Nat) => (j : Int)
theorem idO_succ (n : Nat) : idO (n + 1) = idO n ++ [(n : Int)] := by
  unfold idO
  rw [List.range'_concat, List.map_append]
  simp
theorem idO_not (n : Nat) : ¬ (n : Int) ∈ idO n := by
  unfold idO
  intro h
  obtain ⟨j, hj, e⟩ := List.mem_map.1 h
  have := List.mem_range'_1.1 hj
  omega
theorem idO_mem {n : Nat} : ∀ (d m : Nat), d + m = n → idO n ∈ ords n d (idO m)
  | 0, m, h => by
    rw [ords, List.mem_singleton, show m = n by omega]
  | d + 1, m, h => by
    rw [ords, List.mem_flatMap]
    refine ⟨m, List.mem_range'_1.2 (by omega), ?_⟩
    rw [if_neg (idO_not m), ← idO_succ]
    exact idO_mem d (m + 1) (by omega)
theorem sg_id (l : List Sign) : sg l (idO l.length) = l := by
  unfold sg idO
  rw [List.map_map]
  apply List.ext_getElem?
  intro i
  rw [List.getElem?_map]
  by_cases hi : i < l.length
  · rw [List.getElem?_range' hi, List.getElem?_eq_getElem hi]
    simp [List.getD_eq_getElem?_getD, List.getElem?_eq_getElem hi]
  · rw [List.getElem?_eq_none (by simp; omega), List.getElem?_eq_none (by omega)]
    rfl
theorem vOrd_best {l : List Sign} (h2 : 2 ≤ l.length) : (vOrd l).2.length = l.length ∧ inO l.length (vOrd l).2 ∧ (vOrd l).1 = gs (sg l (vOrd l).2) ∧ (vOrd l).1 ≤ gs l := by
  have hok := ords_ok (n := l.length) l.length [] (by simp) (by simp) (fun z hz => by simp at hz)
  have hid : idO l.length ∈ ords l.length l.length [] := idO_mem (n := l.length) l.length 0 (by omega)
  have hne : ∀ o ∈ ords l.length l.length [], o ≠ [] := fun o ho e => by
    have := (hok o ho).1
    subst e
    simp at this
    omega
  have hmem := fold_mem l (ords l.length l.length []) (0, [])
  have main : (vOrd l).2 ≠ [] ∧ (vOrd l).1 = gs (sg l (vOrd l).2) ∧ ∀ o ∈ ords l.length l.length [], (vOrd l).1 ≤ gs (sg l o) := by
    unfold vOrd
    generalize ords l.length l.length [] = L at hid hne
    cases L with
    | nil => cases hid
    | cons o L =>
      have e : stp l (0, []) o = (gs (sg l o), o) := rfl
      obtain ⟨b1, b2, b3, b4⟩ := fold_best l L (gs (sg l o), o) (hne o List.mem_cons_self) rfl fun q hq => hne q (List.mem_cons_of_mem _ hq)
      rw [List.foldl_cons, e]
      refine ⟨b1, b2, fun q hq => ?_⟩
      rcases List.mem_cons.1 hq with rfl | hq
      · exact b3
      · exact b4 q hq
  obtain ⟨m1, m2, m3⟩ := main
  have hin : (vOrd l).2 ∈ ords l.length l.length [] := by
    rcases hmem with h | h
    · exact absurd h m1
    · exact h
  have := hok _ hin
  have hle := m3 _ hid
  rw [sg_id] at hle
  exact ⟨this.1, this.2.2, m2, hle⟩
theorem gs_snoc : ∀ (l : List Sign) (a b : Sign), gs (l ++ [a] ++ [b]) = gs (l ++ [a]) + gp a b
  | [], a, b => by simp [gs]
  | [x], a, b => by simp [gs]
  | x :: y :: l, a, b => by
    have := gs_snoc (y :: l) a b
    simp only [List.cons_append, gs] at this ⊢
    omega
theorem take_snoc {α : Type} {l : List α} {i : Nat} {x : α} (h : l[i]? = some x) : l.take (i + 1) = l.take i ++ [x] := by
  rw [List.take_add_one, h]
  rfl
theorem drop_take {α : Type} {l : List α} {j : Nat} (h : l.drop j = []) : l.take j = l := List.take_of_length_le (List.drop_eq_nil_iff.1 h)
theorem ok_loop {k : Nat} (hk : 2000010 ≤ k) (l : List Sign) (h4 : l.length ≤ 4) (hg : ∀ x ∈ l, gSign x = true) (o : List Int) (hol : o.length = l.length) (ho : inO l.length o) : ∀ (r : List Sign) (j : Nat), l.drop j = r →
    rangeM (fun (j26 : Int) (x27 : Sign) (⟨n19, n20, n21⟩ : Int × Int × Int) => (Option.bind (X.s_StepsOfSign k x27) fun v23_1 => (bif (!v23_1.2) then some (.inr (.inl false)) else (bif decide ((j26 : Int) > 0) then (Option.bind (getI l (wr ((j26 : Int) - 1))) fun y28_3 => (Option.bind (X.i_GapOfSigns k y28_3 x27) fun v28_6 => (Option.bind (getI o (wr ((j26 : Int) - 1))) fun y29_4 => (Option.bind (getI l y29_4) fun y29_6 => (Option.bind (getI o (j26 : Int)) fun y29_11 => (Option.bind (getI l y29_11) fun y29_13 => (Option.bind (X.i_GapOfSigns k y29_6 y29_13) fun v29_15 => (bif (!v28_6.2) then some (.inr (.inl false)) else (bif (!v29_15.2) then some (.inr (.inl false)) else some (.inl ((wr (n19 + v29_15.1)), (wr (n20 + v28_6.1)), (wr (n21 + (wr (v23_1.1 + 1))))))))))))))) else some (.inl (n19, n20, (wr (n21 + (wr (v23_1.1 + 1)))))))))) (fun (⟨n19, n20, n21⟩ : Int × Int × Int) => some (Sum.inr (n19, n20, n21))) r j (gs (sg l (o.take j)), gs (l.take j), st_ (l.take j)) = some (Sum.inr (gs (sg l o), gs l, st_ l) : Bool ⊕ (Int × Int × Int))
  | [], j, hd => by
    have h1 := List.drop_eq_nil_iff.1 hd
    rw [rangeM_nil, drop_take hd, List.take_of_length_le (by omega)]
  | x :: r, j, hd => by
    obtain ⟨hx, hd2⟩ := get_at hd
    have hlt := some_len hx
    have gx := hg x (List.mem_of_getElem? hx)
    have hsx := stepsS_le gx
    have hsub : ∀ y ∈ l.take j, gSign y = true := fun y hy => hg y (List.mem_of_mem_take hy)
    have b1 := st_bd _ hsub
    have b2 := gs_bd _ hsub
    have hoT : inO l.length (o.take j) := fun z hz => ho z (List.mem_of_mem_take hz)
    have b3 := gs_bd _ (sg_good hg hoT)
    have l1 : (l.take j).length ≤ 4 := by rw [List.length_take]; omega
    have l2 : (sg l (o.take j)).length ≤ 4 := by simp [sg]; omega
    have hst : X.s_StepsOfSign k x = some ((stepsS x : Int), true) := by rw [s_St_eq (good_small gx) hk]; unfold vSt; rw [if_pos gx]
    have w1 : wr ((stepsS x : Int) + 1) = (stepsS x : Int) + 1 := wr_of (by omega) (by omega)
    have w2 : wr (st_ (l.take j) + ((stepsS x : Int) + 1)) = st_ (l.take j) + ((stepsS x : Int) + 1) := wr_of (by omega) (by omega)
    have ih := ok_loop hk l h4 hg o hol ho r (j + 1) hd2
    obtain ⟨v, hv⟩ : ∃ v, o[j]? = some v := ⟨o[j]'(by omega), List.getElem?_eq_getElem (by omega)⟩
    have rv := ho v (List.mem_of_getElem? hv)
    rw [rangeM_cons]
    dsimp only
    rw [hst, bind_some]
    dsimp only
    rw [Bool.not_true, cond_false, w1, w2]
    have e1 : st_ (l.take (j + 1)) = st_ (l.take j) + ((stepsS x : Int) + 1) := by rw [take_snoc hx, st_snoc]
    have es : sg l (o.take (j + 1)) = sg l (o.take j) ++ [l.getD v.toNat zSign] := by rw [take_snoc hv]; simp [sg]
    cases j with
    | zero =>
      have dj : decide (((0 : Nat) : Int) > 0) = false := rfl
      rw [dj, cond_false, bind_some]
      dsimp only
      have e2 : gs (l.take (0 + 1)) = gs (l.take 0) := by rw [take_snoc hx]; rfl
      have e3 : gs (sg l (o.take (0 + 1))) = gs (sg l (o.take 0)) := by rw [es]; rfl
      rw [e1, e2, e3] at ih
      exact ih
    | succ i =>
      have dj : decide (((i + 1 : Nat) : Int) > 0) = true := decide_eq_true (by omega)
      have ej : wr (((i + 1 : Nat) : Int) - 1) = (i : Int) := by rw [wr_of (by omega) (by omega)]; omega
      obtain ⟨p, hp⟩ : ∃ p, l[i]? = some p := ⟨l[i]'(by omega), List.getElem?_eq_getElem (by omega)⟩
      obtain ⟨u, hu⟩ : ∃ u, o[i]? = some u := ⟨o[i]'(by omega), List.getElem?_eq_getElem (by omega)⟩
      have ru := ho u (List.mem_of_getElem? hu)
      have gpp := hg p (List.mem_of_getElem? hp)
      have gu := sg_good hg ho (l.getD u.toNat zSign) (List.mem_map.2 ⟨u, List.mem_of_getElem? hu, rfl⟩)
      have gv := sg_good hg ho (l.getD v.toNat zSign) (List.mem_map.2 ⟨v, List.mem_of_getElem? hv, rfl⟩)
      have v1 : vGap p x = (gp p x, true) := by unfold vGap; rw [gpp, gx]; rfl
      have v2 : vGap (l.getD u.toNat zSign) (l.getD v.toNat zSign) = (gp (l.getD u.toNat zSign) (l.getD v.toNat zSign), true) := by unfold vGap; rw [gu, gv]; rfl
      obtain ⟨_, _, p0, p1⟩ := gap_eqs gpp gx
      obtain ⟨_, _, q0, q1⟩ := gap_eqs gu gv
      rw [dj, cond_true, ej, getI_of hp, bind_some, i_Gap_eq (good_small gpp) (good_small gx) (by omega), bind_some, getI_of hu, bind_some, getI_sg ru, bind_some, getI_of hv, bind_some, getI_sg rv, bind_some, i_Gap_eq (good_small gu) (good_small gv) (by omega), bind_some, v1, v2]
      dsimp only
      rw [Bool.not_true, cond_false, cond_false, bind_some]
      dsimp only
      have e2 : gs (l.take (i + 1 + 1)) = gs (l.take (i + 1)) + gp p x := by rw [take_snoc hx, take_snoc hp, gs_snoc]
      have e3 : gs (sg l (o.take (i + 1 + 1))) = gs (sg l (o.take (i + 1))) + gp (l.getD u.toNat zSign) (l.getD v.toNat zSign) := by
        have eu : sg l (o.take (i + 1)) = sg l (o.take i) ++ [l.getD u.toNat zSign] := by rw [take_snoc hu]; simp [sg]
        rw [es, eu, gs_snoc]
      rw [wr_of (z := gs (sg l (o.take (i + 1))) + _) (by omega) (by omega), wr_of (z := gs (l.take (i + 1)) + _) (by omega) (by omega)]
      rw [e1, e2, e3] at ih
      exact ih
end Go.Proofs.XC
