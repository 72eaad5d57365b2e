/- Plain laws of the plain functions: no program, no memory. By AI agents; no person has read it. -/
import Derived.Test.YtkckmehkialgjaaGreatDoorPR4
set_option linter.unusedVariables false
set_option linter.unusedSimpArgs false
set_option maxRecDepth 100000
set_option maxHeartbeats 40000000
namespace Go.Proofs.XC
open Go Go.RowKit
/-! ### Groups of signs that are the same -/
theorem fst_rng {α : Type} (p : α → Bool) : ∀ (l : List α) (j : Nat), fst_ p l j (-1) = -1 ∧ l.any p = false ∨ ∃ i x, l[i]? = some x ∧ p x = true ∧ fst_ p l j (-1) = ((j + i : Nat) : Int)
  | [], j => .inl ⟨rfl, rfl⟩
  | x :: l, j => by
    unfold fst_
    cases h : p x
    · rcases fst_rng p l (j + 1) with ⟨h1, h2⟩ | ⟨i, y, h1, h2, h3⟩
      · exact .inl ⟨by simpa using h1, by simp [h, h2]⟩
      · exact .inr ⟨i + 1, y, by simpa using h1, h2, by simp only [Bool.false_eq_true, if_false, h3]; omega⟩
    · exact .inr ⟨0, x, rfl, h, by simp⟩
theorem fst_gen {α : Type} (F : α → Option Bool) (p : α → Bool) : ∀ (l : List α) (j : Nat), (∀ x ∈ l, F x = some (p x)) → orEl (rangeM (fun (j2 : Int) (x3 : α) (_ : Unit) => (Option.bind (F x3) fun v4_5 => (bif v4_5 then some (.inr (.inl (j2 : Int))) else some (.inl ())))) (fun _ => some (.inr ())) l j ()) (fun r => some r) (fun (_ : Unit) => some (-1)) = some (fst_ p l j (-1))
  | [], j, _ => rfl
  | x :: l, j, hF => by
    rw [rangeM_cons, hF x List.mem_cons_self, bind_some]
    unfold fst_
    cases h : p x
    · simp only [cond_false, bind_some, Bool.false_eq_true, if_false]
      exact fst_gen F p l (j + 1) fun y hy => hF y (List.mem_cons_of_mem _ hy)
    · rfl
theorem noFind_fst (l : List Sign) (x : Sign) : X.s_noFind l x = some (fst_ (fun y => decide (y = x)) l 0 (-1)) := by
  refine Eq.trans ?_ (fst_gen (fun y => some (decide (y = x))) (fun y => decide (y = x)) l 0 fun _ _ => rfl)
  unfold X.s_noFind
  congr 2
  funext j y u
  rw [qSign_iff]
  rfl
theorem appSg {l m : List Sign} (h : l.length + m.length ≤ 100000) : appG nSign l m = some (l ++ m) := by
  unfold appG
  have hby : nSign.by_ ≤ 1000 := by decide
  have h2 : (l.length + m.length) * nSign.by_ ≤ 100000 * 1000 := Nat.mul_le_mul h hby
  rw [if_pos (by omega)]
def grp (i : Nat) (x : Sign) (s : List Sign × List (List Int)) : List Sign × List (List Int) :=
  if fst_ (fun y => decide (y = nS x)) s.1 0 (-1) < 0 then (s.1 ++ [nS x], s.2 ++ [[(i : Int)]]) else (s.1, s.2.set (fst_ (fun y => decide (y = nS x)) s.1 0 (-1)).toNat (s.2.getD (fst_ (fun y => decide (y = nS x)) s.1 0 (-1)).toNat [] ++ [(i : Int)]))
def grpInv (L : List Sign) (i : Nat) (s : List Sign × List (List Int)) : Prop := s.1.length = s.2.length ∧ s.2.length ≤ i ∧ (∀ g ∈ s.2, g.length ≤ i) ∧ ∀ (k : Nat) g y, s.2[k]? = some g → s.1[k]? = some y → ∃ (q : Nat) (x : Sign) (r : List Int), g = (q : Int) :: r ∧ L[q]? = some x ∧ nS x = y
theorem grp_inv {L : List Sign} {i : Nat} {x : Sign} {s : List Sign × List (List Int)} (hx : L[i]? = some x) (h : grpInv L i s) : grpInv L (i + 1) (grp i x s) := by
  obtain ⟨F, O⟩ := s
  obtain ⟨h1, h2, h3, h4⟩ := h
  simp only at h1 h2 h3 h4
  unfold grp
  rcases fst_rng (fun y => decide (y = nS x)) F 0 with ⟨e, _⟩ | ⟨q, y, hq, hp, e⟩
  · simp only [e]
    rw [if_pos (by omega)]
    refine ⟨by simp [h1], by simp; omega, fun g hg => ?_, fun k g y hg hy => ?_⟩
    · rcases List.mem_append.1 hg with hg | hg
      · have := h3 g hg; omega
      · rw [List.mem_singleton] at hg; subst hg; simp
    · rcases Nat.lt_trichotomy k O.length with hk | hk | hk
      · rw [List.getElem?_append_left hk] at hg
        rw [List.getElem?_append_left (by omega)] at hy
        exact h4 k g y hg hy
      · subst hk
        rw [List.getElem?_append_right (Nat.le_refl _), Nat.sub_self] at hg
        rw [List.getElem?_append_right (by omega), h1, Nat.sub_self] at hy
        simp at hg hy
        exact ⟨i, x, [], hg.symm, hx, hy⟩
      · rw [List.getElem?_eq_none (by simp; omega)] at hg
        cases hg
  · simp only [e, Nat.zero_add]
    rw [if_neg (by omega), Int.toNat_natCast]
    have hqF := (List.getElem?_eq_some_iff.1 hq).1
    have hqO : q < O.length := by omega
    have hgd : O.getD q [] = O[q] := by rw [List.getD_eq_getElem?_getD, List.getElem?_eq_getElem hqO]; rfl
    refine ⟨by simp [h1], by simp; omega, fun g hg => ?_, fun k g y hg hy => ?_⟩
    · rcases List.mem_or_eq_of_mem_set hg with hg | hg
      · have := h3 g hg; omega
      · subst hg
        have := h3 _ (List.getElem_mem hqO)
        simp only [hgd, List.length_append, List.length_singleton]
        omega
    · by_cases hk : k = q
      · subst hk
        rw [List.getElem?_set_self hqO] at hg
        obtain rfl := Option.some.inj hg
        obtain ⟨a, b, r, h5, h6, h7⟩ := h4 k _ y (List.getElem?_eq_getElem hqO) hy
        exact ⟨a, b, r ++ [(i : Int)], by rw [hgd, h5]; rfl, h6, h7⟩
      · rw [List.getElem?_set_ne (Ne.symm hk)] at hg
        exact h4 k g y hg hy
theorem fst_same {α β : Type} {p : α → Bool} {q : β → Bool} : ∀ {l : List α} {m : List β} (j : Nat), l.length = m.length → (∀ (k : Nat) x y, l[k]? = some x → m[k]? = some y → p x = q y) → fst_ p l j (-1) = fst_ q m j (-1)
  | [], [], j, _, _ => rfl
  | [], _ :: _, j, h, _ => by simp at h
  | _ :: _, [], j, h, _ => by simp at h
  | x :: l, y :: m, j, h, hp => by
    unfold fst_
    rw [hp 0 x y rfl rfl, fst_same (j + 1) (by simpa using h) fun k a b ha hb => hp (k + 1) a b (by simpa using ha) (by simpa using hb)]
def grps (l : List Sign) : List (List Int) := (rng grp l 0 ([], [])).2
def vGroups (l : List Sign) : List (List Int) × Bool := if l.all gSign && decide (l.length ≤ 16) then (grps l, true) else ([], false)
theorem grps_bnd {l : List Sign} (h : l.length ≤ 16) : (grps l).length ≤ 1000 ∧ ∀ r ∈ grps l, r.length ≤ 1000 := by
  have := (rng_rangeM (mk := fun s : List Sign × List (List Int) => s) (body := fun i x s => some (.inl (grp i.toNat x s))) (fin := fun s => some s) grp (grpInv l) l (fun i x s hx hv => ⟨by rw [Int.toNat_natCast], grp_inv hx hv⟩) l 0 ([], []) rfl ⟨rfl, by simp, by simp, by simp⟩).2
  unfold grps
  exact ⟨by have := this.2.1; omega, fun r hr => by have := this.2.2.1 r hr; omega⟩
theorem vGroups_bnd (l : List Sign) : (vGroups l).1.length ≤ 1000 ∧ ∀ r ∈ (vGroups l).1, r.length ≤ 1000 := by
  unfold vGroups
  split
  · rename_i h
    exact grps_bnd (by simp at h; exact h.2)
  · simp
theorem getI_D {L : List (List Int)} {q : Nat} (h : q < L.length) : getI L (q : Int) = some (L.getD q []) := getI_of (by rw [List.getD_eq_getElem?_getD, List.getElem?_eq_getElem h]; rfl)
theorem i_Groups_eq {k : Nat} {l : List Sign} (hs : ∀ s ∈ l, smallS s) (hk : 10 ≤ k) : X.i_SameGroups k l = some (vGroups l) := by
  unfold X.i_SameGroups vGroups
  rw [i_areSigns_eq hs hk, show ((16 : Int)) = ((16 : Nat) : Int) from rfl, len16]
  cases h1 : l.all gSign <;> cases h2 : decide (l.length ≤ 16) <;> simp only [Bool.true_and, Bool.false_and, Bool.and_true, Bool.and_false, Bool.and_self, Bool.not_true, Bool.not_false, cond_true, cond_false, bind_some, if_true, Bool.false_eq_true, if_false]
  have hg : ∀ s ∈ l, gSign s = true := by simpa using h1
  have h16 : l.length ≤ 16 := by simpa using h2
  have key := (rng_rangeM (mk := fun s : List Sign × List (List Int) => s.2) (body := fun (j11 : Int) (x12 : Sign) l5 => (Option.bind (X.slices_IndexFunc_Rint_int l5 (X.i_SameGroups_1 k l x12)) fun v7_2 => (bif decide (v7_2 < 0) then (Option.bind (appD l5 ([([(j11 : Int)] : List Int)] : List (List Int))) fun y9_4 => some (.inl y9_4)) else (Option.bind (getI l5 v7_2) fun y10_4 => (Option.bind (appG (eI .i64) y10_4 ([(j11 : Int)] : List Int)) fun y10_8 => some (.inl (List.set l5 (Int.toNat v7_2) y10_8))))))) (fin := fun l5 => some l5) grp (grpInv l) l (fun i x s hx hv => ?_) l 0 ([], []) rfl ⟨rfl, by simp, by simp, by simp⟩).1
  · refine (congrArg (fun o => Option.bind o _) key).trans ?_
    rfl
  · refine ⟨?_, grp_inv hx hv⟩
    obtain ⟨F, O⟩ := s
    obtain ⟨v1, v2, v3, v4⟩ := hv
    simp only at v1 v2 v3 v4
    have hi := some_len hx
    have hix : X.slices_IndexFunc_Rint_int O (X.i_SameGroups_1 k l x) = some (fst_ (fun y => decide (y = nS x)) F 0 (-1)) := by
      have e2 : ∀ g ∈ O, X.i_SameGroups_1 k l x g = some (decide (((getI g 0).bind fun z => (getI l z).map nS) = some (nS x))) := by
        intro g hgm
        obtain ⟨q, hq⟩ := List.mem_iff_getElem?.1 hgm
        have hqF : q < F.length := by rw [v1]; exact some_len hq
        obtain ⟨a, b, r, h5, h6, h7⟩ := v4 q g _ hq (List.getElem?_eq_getElem hqF)
        unfold X.i_SameGroups_1
        have hz : getI g 0 = some (a : Int) := by rw [h5]; rfl
        rw [hz, bind_some, getI_of h6, bind_some, i_normal_eq (hg b (mem_of h6)) hk, bind_some, i_normal_eq (hg x (mem_of hx)) hk, bind_some, qSign_iff, bind_some, getI_of h6]
        simp
      refine (fst_gen _ _ O 0 e2).trans (congrArg some ?_)
      refine fst_same 0 v1.symm fun q g y hq hy => ?_
      obtain ⟨a, b, r, h5, h6, h7⟩ := v4 q g y hq hy
      have hz : getI g 0 = some (a : Int) := by rw [h5]; rfl
      rw [hz, bind_some, getI_of h6, Option.map_some, h7]
      simp
    simp only [hix, bind_some]
    unfold grp
    rcases fst_rng (fun y => decide (y = nS x)) F 0 with ⟨e, _⟩ | ⟨q, y, hq, hp, e⟩
    · simp only [e]
      rw [if_pos (by omega), show decide ((-1 : Int) < 0) = true from rfl, cond_true, appDD (by omega), bind_some]
    · have hqO : q < O.length := by rw [← v1]; exact some_len hq
      simp only [e, Nat.zero_add]
      have hd : decide (((q : Nat) : Int) < 0) = false := decide_eq_false (by omega)
      have hgl := v3 _ (List.getElem_mem hqO)
      have hgd : O.getD q [] = O[q] := by rw [List.getD_eq_getElem?_getD, List.getElem?_eq_getElem hqO]; rfl
      rw [if_neg (by omega), hd, cond_false, getI_D hqO, bind_some, appI (by rw [hgd]; omega), bind_some, Int.toNat_natCast]
theorem s_Groups_eq {k : Nat} {l : List Sign} (hs : ∀ s ∈ l, smallS s) (hk : 2000010 ≤ k) : X.s_SameGroups k l = some (vGroups l) := by
  unfold X.s_SameGroups vGroups
  rw [s_noList_eq hs hk]
  cases h1 : l.all gSign <;> cases h2 : decide (l.length ≤ 16) <;> simp only [Bool.true_and, Bool.false_and, Bool.and_true, Bool.and_false, Bool.and_self, Bool.not_true, Bool.not_false, cond_true, cond_false, bind_some, if_true, Bool.false_eq_true, if_false]
  have hg : ∀ s ∈ l, gSign s = true := by simpa using h1
  have h16 : l.length ≤ 16 := by simpa using h2
  have key := (rng_rangeM (mk := fun s : List Sign × List (List Int) => s) (body := fun (j17 : Int) (x18 : Sign) (⟨l2, l8⟩ : List Sign × List (List Int)) => (Option.bind (X.s_noForm k x18) fun v8_2 => (Option.bind (X.s_noFind l2 v8_2) fun v8_3 => (bif decide (v8_3 < 0) then (Option.bind (X.s_noForm k x18) fun v10_2 => (Option.bind (appG nSign l2 ([v10_2] : List Sign)) fun y10_4 => (Option.bind (appD l8 ([([(j17 : Int)] : List Int)] : List (List Int))) fun y11_4 => some (.inl (y10_4, y11_4))))) else (Option.bind (getI l8 v8_3) fun y12_4 => (Option.bind (appG (eI .i64) y12_4 ([(j17 : Int)] : List Int)) fun y12_8 => some (.inl (l2, (List.set l8 (Int.toNat v8_3) y12_8)))))))))
    (fin := fun (⟨l2, l8⟩ : List Sign × List (List Int)) => some (l2, l8)) grp (grpInv l) l (fun i x s hx hv => ?_) l 0 ([], []) rfl ⟨rfl, by simp, by simp, by simp⟩).1
  · refine (congrArg (fun o => Option.bind o _) key).trans ?_
    rfl
  · refine ⟨?_, grp_inv hx hv⟩
    obtain ⟨F, O⟩ := s
    obtain ⟨v1, v2, v3, v4⟩ := hv
    simp only at v1 v2 v3 v4
    have hi := some_len hx
    simp only [s_noForm_eq (hg x (mem_of hx)) (show 10 ≤ k by omega), noFind_fst, bind_some]
    unfold grp
    rcases fst_rng (fun y => decide (y = nS x)) F 0 with ⟨e, _⟩ | ⟨q, y, hq, hp, e⟩
    · simp only [e]
      rw [if_pos (by omega), show decide ((-1 : Int) < 0) = true from rfl, cond_true, appSg (by simp; omega), bind_some, appDD (by omega), bind_some]
    · have hqO : q < O.length := by rw [← v1]; exact some_len hq
      simp only [e, Nat.zero_add]
      have hd : decide (((q : Nat) : Int) < 0) = false := decide_eq_false (by omega)
      have hgl := v3 _ (List.getElem_mem hqO)
      have hgd : O.getD q [] = O[q] := by rw [List.getD_eq_getElem?_getD, List.getElem?_eq_getElem hqO]; rfl
      rw [if_neg (by omega), hd, cond_false, getI_D hqO, bind_some, appI (by rw [hgd]; omega), bind_some, Int.toNat_natCast]
theorem Pure.FnExactSameGroups (l : List Sign) (o_l : okL okSign l) : X.l_FnExactSameGroups 3000000 l = some true := by
  unfold X.l_FnExactSameGroups
  obtain ⟨r0, hr0, d0⟩ := szSignS_eq (l := l) (z := 1048576) o_l (by omega) (by omega)
  rw [hr0, bind_some]
  rcases d0 with d0 | ⟨n_l, h_l, p0, q0⟩
  · have : decide (r0 < 0) = true := by simpa using d0
    rw [this]
    rfl
  have e0 : decide (r0 < 0) = false := by simpa using p0
  rw [e0, cond_false]
  have hvl : (vGroups l).1.length ≤ 1000 ∧ ∀ r ∈ (vGroups l).1, r.length ≤ 1000 := vGroups_bnd l
  have hpr : decide (1 + totR (vGroups l).1 < 0) = false := by have := totR_nonneg (vGroups l).1; simp; omega
  have hpa : decide (1 + 27 * (l.length : Int) < 0) = false := by simp; omega
  simp only [toSignS_eq n_l,
    eqSignS_eq n_l,
    bind_some,
    i_Groups_eq h_l (show 10 ≤ 3000000 by omega),
    s_Groups_eq h_l (show 2000010 ≤ 3000000 by omega),
    eqIntSS_eq hvl.1 hvl.2,
    markIntSS_eq hvl.1 hvl.2,
    heldIntSS_eq hvl.1 hvl.2,
    hpr,
    markSignS_eq (k := 1) (show (0 : Int) ≤ 1 by omega) (show (1 : Int) ≤ 1000000000000 by omega) n_l,
    hpa]
  simp
end Go.Proofs.XC
