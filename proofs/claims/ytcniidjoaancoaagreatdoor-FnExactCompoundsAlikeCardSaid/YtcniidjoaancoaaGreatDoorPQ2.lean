/- Plain laws of the plain functions: no program, no memory. By AI agents; no person has read it. -/
import Derived.Test.YtcniidjoaancoaaGreatDoorPQ1
set_option linter.unusedVariables false
set_option linter.unusedSimpArgs false
set_option maxRecDepth 100000
set_option maxHeartbeats 40000000
namespace Go.Proofs.XC
open Go Go.RowKit
/-! ### The nearest sign, signs within a distance -/
def ltB (a b : Int) : Bool := decide (a < b)
def fN (s x : Sign) : Int := farG x s
def vNear (l : List Sign) (s : Sign) : Int × Int × Bool := if l.all gSign && decide (l.length ≤ 20) && gSign s then (match l with | [] => (0, 0, false) | y :: _ => ((arg ltB (fN s) l 0 (0, fN s y)).1, (arg ltB (fN s) l 0 (0, fN s y)).2, true)) else (0, 0, false)
theorem i_Near_eq {k : Nat} {l : List Sign} {s : Sign} (hs : ∀ s ∈ l, smallS s) (h2s : smallS s) (hl : l.length ≤ 1048576) (hk : 100 ≤ k) : X.i_NearestSign k l s = some (vNear l s) := by
  unfold X.i_NearestSign vNear
  rw [i_areSigns_eq hs (by omega), i_IsSign_eq h2s (by omega), len0, show ((20 : Int)) = ((20 : Nat) : Int) from rfl, len16]
  cases l with
  | nil => cases gSign s <;> rfl
  | cons y0 l' =>
    have h0 : decide ((y0 :: l').length = 0) = false := by simp
    rw [h0]
    cases h1 : (y0 :: l').all gSign <;> cases h2 : decide ((y0 :: l').length ≤ 20) <;> cases h3 : gSign s <;> simp only [Bool.true_and, Bool.false_and, Bool.and_true, Bool.and_false, Bool.and_self, Bool.not_true, Bool.not_false, cond_true, cond_false, bind_some, if_true, Bool.false_eq_true, if_false]
    have hg : ∀ s ∈ y0 :: l', gSign s = true := by simpa using h1
    have hf : ∀ x, gSign x = true → X.i_Sign_distance k x s = some (fN s x) := fun x gx => (farG_eqs gx h3 hk).1
    obtain ⟨b', y', hr, hb, ha⟩ := arg_impl (ρ := Int) ltB (fN s) (y0 :: l') (body := fun (j7 : Int) (x8 : Sign) n4 => (Option.bind (X.i_Sign_distance k x8 s) fun v7_2 => (Option.bind (getI (y0 :: l') n4) fun y7_5 => (Option.bind (X.i_Sign_distance k y7_5 s) fun v7_8 => (bif decide (v7_2 < v7_8) then some (.inl (j7 : Int)) else some (.inl n4)))))) (fin := fun n => some n) (y0 :: l') 0 0 y0 rfl (getI_zero rfl) (fun i x b y hx hy => by
      rw [hf x (hg x (List.mem_of_getElem? hx)), bind_some, hy, bind_some, hf y (hg y (List.mem_of_getElem? (getI_some hy).2.2)), bind_some]
      unfold ltB
      cases decide (fN s x < fN s y) <;> rfl)
    rw [hr, bind_some, hb, bind_some, hf y' (hg y' (List.mem_of_getElem? (getI_some hb).2.2)), bind_some, ha]
theorem s_Near_eq {k : Nat} {l : List Sign} {s : Sign} (hs : ∀ s ∈ l, smallS s) (h2s : smallS s) (hl : l.length ≤ 1048576) (hk : 2000010 ≤ k) : X.s_NearestSign k l s = some (vNear l s) := by
  unfold X.s_NearestSign vNear
  rw [s_paList_eq hs hk, s_siGood_eq h2s hk, len0]
  cases l with
  | nil => cases gSign s <;> rfl
  | cons y0 l' =>
    have h0 : decide ((y0 :: l').length = 0) = false := by simp
    rw [h0]
    cases h1 : (y0 :: l').all gSign <;> cases h2 : decide ((y0 :: l').length ≤ 20) <;> cases h3 : gSign s <;> simp only [Bool.true_and, Bool.false_and, Bool.and_true, Bool.and_false, Bool.and_self, Bool.not_true, Bool.not_false, cond_true, cond_false, bind_some, if_true, Bool.false_eq_true, if_false]
    have hg : ∀ s ∈ y0 :: l', gSign s = true := by simpa using h1
    have hf : ∀ x, gSign x = true → X.s_feFar k x s = some (fN s x) := fun x gx => (farG_eqs gx h3 (show 100 ≤ k by omega)).2.1
    rw [getI_zero (y := y0) rfl, bind_some, hf y0 (hg y0 List.mem_cons_self), bind_some]
    rw [arg_spec ltB (fN s) (y0 :: l') 0 (0, fN s y0) fun i x q hx => ?_]
    · rfl
    · rw [hf x (hg x (List.mem_of_getElem? hx)), bind_some]
      unfold ltB
      cases decide (fN s x < q.2) <;> rfl
def vWithin (l : List Sign) (s : Sign) (n : Int) : List Int × Bool := if l.all gSign && decide (l.length ≤ 20) && gSign s && inR n 0 100 then (ixs (fun x => decide (farG x s ≤ n)) l 0, true) else ([], false)
theorem i_Within_eq {k : Nat} {l : List Sign} {s : Sign} (n : Int) (hs : ∀ s ∈ l, smallS s) (h2s : smallS s) (hl : l.length ≤ 1048576) (hk : 100 ≤ k) : X.i_SignsWithin k l s n = some (vWithin l s n) := by
  unfold X.i_SignsWithin X.i_those_i_Sign vWithin
  rw [i_areSigns_eq hs (by omega), i_IsSign_eq h2s (by omega), i_within_eq, show ((20 : Int)) = ((20 : Nat) : Int) from rfl, len16]
  cases h1 : l.all gSign <;> cases h2 : decide (l.length ≤ 20) <;> cases h3 : gSign s <;> cases h4 : inR n 0 100 <;> simp only [Bool.true_and, Bool.false_and, Bool.and_true, Bool.and_false, Bool.and_self, Bool.not_true, Bool.not_false, cond_true, cond_false, bind_some, if_true, Bool.false_eq_true, if_false]
  have hg : ∀ s ∈ l, gSign s = true := by simpa using h1
  rw [those_gen (fun x => decide (farG x s ≤ n)) (fun _ => rfl) l 0 [] (by simp; omega) (fun i y q hy => ?_)]
  · rfl
  · unfold X.i_SignsWithin_1
    rw [(farG_eqs (hg y (List.mem_of_getElem? hy)) h3 hk).1]
    simp only [bind_some]
    cases decide (farG y s ≤ n) <;> simp
theorem s_Within_eq {k : Nat} {l : List Sign} {s : Sign} (n : Int) (hs : ∀ s ∈ l, smallS s) (h2s : smallS s) (hl : l.length ≤ 1048576) (hk : 2000010 ≤ k) : X.s_SignsWithin k l s n = some (vWithin l s n) := by
  unfold X.s_SignsWithin vWithin
  rw [s_paList_eq hs hk, s_siGood_eq h2s hk, s_l1In_eq]
  cases h1 : l.all gSign <;> cases h2 : decide (l.length ≤ 20) <;> cases h3 : gSign s <;> cases h4 : inR n 0 100 <;> simp only [Bool.true_and, Bool.false_and, Bool.and_true, Bool.and_false, Bool.and_self, Bool.not_true, Bool.not_false, cond_true, cond_false, bind_some, if_true, Bool.false_eq_true, if_false]
  have hg : ∀ s ∈ l, gSign s = true := by simpa using h1
  rw [those_gen (fun x => decide (farG x s ≤ n)) (fun _ => rfl) l 0 [] (by simp; omega) (fun i y q hy => ?_)]
  · rfl
  · rw [(farG_eqs (hg y (List.mem_of_getElem? hy)) h3 (show 100 ≤ k by omega)).2.1]
    simp only [bind_some]
    cases decide (farG y s ≤ n) <;> simp
theorem vWithin_len (l : List Sign) (s : Sign) (n : Int) : (vWithin l s n).1.length ≤ l.length := by
  unfold vWithin
  split
  · exact ixs_len _ l 0
  · simp
/-! ### Signs that keep all constraints -/
def vLaw (l : List Sign) (c : List Constraint) : List Int × Bool := if l.all gSign && decide (l.length ≤ 20) && (c.all gCon && decide (c.length ≤ 10)) then (ixs (fun s => c.all fun x => keepC x s) l 0, true) else ([], false)
theorem ixs_none {α : Type} (p : α → Bool) : ∀ (l : List α) (j : Nat), decide ((ixs p l j).length = 0) = !(l.any p)
  | [], j => by simp [ixs]
  | x :: l, j => by
    unfold ixs
    cases h : p x
    · simp only [Bool.false_eq_true, if_false, List.any_cons, h, Bool.false_or]
      exact ixs_none p l (j + 1)
    · simp [h]
theorem i_Law_eq {k : Nat} {l : List Sign} (c : List Constraint) (hs : ∀ s ∈ l, smallS s) (hl : l.length ≤ 1048576) (hk : 10 ≤ k) : X.i_LawfulSigns k l c = some (vLaw l c) := by
  unfold X.i_LawfulSigns X.i_those_i_Sign vLaw
  rw [i_areSigns_eq hs hk, i_areC_eq, show ((20 : Int)) = ((20 : Nat) : Int) from rfl, len16]
  cases h1 : l.all gSign <;> cases h2 : decide (l.length ≤ 20) <;> cases h3 : (c.all gCon && decide (c.length ≤ 10)) <;> simp only [Bool.true_and, Bool.false_and, Bool.and_true, Bool.and_false, Bool.and_self, Bool.not_true, Bool.not_false, cond_true, cond_false, bind_some, if_true, Bool.false_eq_true, if_false]
  have hg : ∀ s ∈ l, gSign s = true := by simpa using h1
  rw [those_gen (fun s => c.all fun x => keepC x s) (fun _ => rfl) l 0 [] (by simp; omega) (fun i y q hy => ?_)]
  · rfl
  · unfold X.i_LawfulSigns_1
    rw [i_allC_eq c _ (fun x => keepC x y) fun x _ => by unfold X.i_LawfulSigns_1_1; rw [i_kept_eq x (hg y (List.mem_of_getElem? hy))]; rfl]
    simp only [bind_some]
    cases (c.all fun x => keepC x y) <;> simp
theorem s_Law_eq {k : Nat} {l : List Sign} {c : List Constraint} (hs : ∀ s ∈ l, smallS s) (hl : l.length ≤ 1048576) (hc : c.length ≤ 1048576) (hk : 2000010 ≤ k) : X.s_LawfulSigns k l c = some (vLaw l c) := by
  unfold X.s_LawfulSigns vLaw
  rw [s_paList_eq hs hk, s_ruAll_eq]
  cases h1 : l.all gSign <;> cases h2 : decide (l.length ≤ 20) <;> cases h3 : (c.all gCon && decide (c.length ≤ 10)) <;> simp only [Bool.true_and, Bool.false_and, Bool.and_true, Bool.and_false, Bool.and_self, Bool.not_true, Bool.not_false, cond_true, cond_false, bind_some, if_true, Bool.false_eq_true, if_false]
  have hg : ∀ s ∈ l, gSign s = true := by simpa using h1
  rw [those_gen (fun s => c.all fun x => keepC x s) (fun _ => rfl) l 0 [] (by simp; omega) (fun i y q hy => ?_)]
  · rfl
  · have gy := hg y (List.mem_of_getElem? hy)
    unfold X.s_ruBroken
    rw [those_gen (fun x => !(keepC x y)) (fun _ => rfl) c 0 [] (by simp; omega) (fun i x q hx => by
      rw [s_kept_eq x gy (by omega)]
      simp only [bind_some]
      cases keepC x y <;> simp)]
    have e : (!(c.any fun x => !(keepC x y))) = c.all fun x => keepC x y := by
      rw [List.any_eq_not_all_not]
      simp
    simp only [bind_some, List.nil_append, len0, ixs_none, e]
    cases (c.all fun x => keepC x y) <;> simp
theorem vLaw_len (l : List Sign) (c : List Constraint) : (vLaw l c).1.length ≤ l.length := by
  unfold vLaw
  split
  · exact ixs_len _ l 0
  · simp
def mkCon (q : Int) : Constraint := ⟨q, wr (q + 1)⟩
theorem markConstraintS_eq {l : List Constraint} {k : Int} (hk0 : 0 ≤ k) (hk : k ≤ 1000000000000) (hlen : l.length ≤ 1048576) : X.l_markConstraintS 3000000 l k = some (k + 2 * (l.length : Int), mks mkCon 2 k l.length) := by
  unfold X.l_markConstraintS
  rw [mark_gen mkCon (c := 2) l (by omega) (by omega) hk0 hk hlen (by omega) ?_ ?_]
  · rfl
  · intro i q s y h0 h1 hi hy
    have hd : decide ((i : Int) < (l.length : Int)) = true := by simp; omega
    have w1 : wr (q + 1) = q + 1 := wr_of (by omega) (by omega)
    have w2 : wr (q + 1 + 1) = q + 2 := by rw [wr_of (by omega) (by omega)]; omega
    simp only [hd, cond_true, getI_of hy, bind_some, wr_suc (show i ≤ 4611686018427387904 by omega), Int.toNat_natCast, mkCon, w1, w2]
  · intro q s
    simp only [dec_end, cond_false]
/-! ### Distinct signs -/
def distF : List Sign → List Sign → List Sign
  | [], acc => acc
  | x :: l, acc => distF l (if nS x ∈ acc then acc else acc ++ [nS x])
theorem distF_len : ∀ (l acc : List Sign), (distF l acc).length ≤ acc.length + l.length
  | [], acc => by simp [distF]
  | x :: l, acc => by
    rw [distF]
    have := distF_len l (if nS x ∈ acc then acc else acc ++ [nS x])
    split at this
    · simp only [List.length_cons]
      rw [if_pos (by assumption)]
      omega
    · rw [if_neg (by assumption)]
      simp only [List.length_cons, List.length_append, List.length_nil] at this ⊢
      omega
theorem dist_gen {body : Int → Sign → List Sign → Option (List Sign ⊕ List Sign)} : ∀ (l acc : List Sign) (j : Nat), acc.length + l.length ≤ 1000000 → (∀ (i : Int) x acc, x ∈ l → body i x acc = if nS x ∈ acc then some (.inl acc) else Option.bind (appG nSign acc [nS x]) fun y => some (.inl y)) → rangeM body (fun l => some l) l j acc = some (distF l acc)
  | [], acc, j, _, _ => rfl
  | x :: l, acc, j, hl, hb => by
    simp only [List.length_cons] at hl
    have ha : appG nSign acc [nS x] = some (acc ++ [nS x]) := by
      unfold appG
      have hby : nSign.by_ = 232 := rfl
      rw [if_pos]
      rw [hby]
      simp only [List.length_cons, List.length_nil]
      omega
    rw [rangeM_cons, hb _ x acc List.mem_cons_self, distF]
    by_cases h : nS x ∈ acc
    · simp only [h, if_true, bind_some]
      exact dist_gen l acc (j + 1) (by omega) fun i y a hy => hb i y a (List.mem_cons_of_mem _ hy)
    · simp only [h, if_false, ha, bind_some]
      exact dist_gen l _ (j + 1) (by simp; omega) fun i y a hy => hb i y a (List.mem_cons_of_mem _ hy)
theorem noFind_eq (l : List Sign) (x : Sign) : ∃ z, X.s_noFind l x = some z ∧ decide (z < 0) = !(decide (x ∈ l)) := by
  unfold X.s_noFind
  have e : rangeM (fun (j2 : Int) (x3 : Sign) (_ : Unit) => (bif (qSign x3 x) then some (.inr (Sum.inl j2)) else some (.inl ()))) (fun _ => some (Sum.inr ())) l 0 () = some (match l.findIdx? (fun y => decide (y = x)) with | some i => Sum.inl ((0 + i : Nat) : Int) | none => Sum.inr ()) := by
    refine Eq.trans ?_ (find_eq (fun y => decide (y = x)) (fun y => some (decide (y = x))) l 0 (fun _ _ => rfl))
    congr 1
    funext j y u
    rw [qSign_iff]
    rfl
  rw [e]
  cases hf : l.findIdx? fun y => decide (y = x) with
  | none =>
    rw [List.findIdx?_eq_none_iff] at hf
    have : x ∉ l := fun h => by have := hf x h; simp at this
    exact ⟨-1, rfl, by simp [this]⟩
  | some i =>
    obtain ⟨h1, h2, _⟩ := List.findIdx?_eq_some_iff_getElem.1 hf
    have : x ∈ l := by
      have e : l[i] = x := by simpa using h2
      rw [← e]
      exact List.getElem_mem h1
    exact ⟨((0 + i : Nat) : Int), rfl, by simp [this]⟩
theorem containsS_eq (l : List Sign) (x : Sign) : X.slices_Contains_i_Sign_i_Sign l x = some (decide (x ∈ l)) := by
  unfold X.slices_Contains_i_Sign_i_Sign X.slices_Index_i_Sign_i_Sign
  obtain ⟨z, hz, hz2⟩ := noFind_eq l x
  unfold X.s_noFind at hz
  have e : (fun (j2 : Int) (x3 : Sign) (_ : Unit) => (bif (qSign x x3) then some (Sum.inr (Sum.inl j2)) else some (Sum.inl ()) : Option (Unit ⊕ (Int ⊕ Unit)))) = fun (j2 : Int) (x3 : Sign) (_ : Unit) => (bif (qSign x3 x) then some (Sum.inr (Sum.inl j2)) else some (Sum.inl ()) : Option (Unit ⊕ (Int ⊕ Unit))) := by
    funext j y u
    rw [qSign_iff, qSign_iff]
    have : decide (x = y) = decide (y = x) := by rw [Bool.eq_iff_iff]; simp [eq_comm]
    rw [this]
  rw [show (fun (j2 : Int) (x3 : Sign) (x_ : Unit) => (bif (qSign x x3) then some (Sum.inr (Sum.inl j2)) else some (Sum.inl ()) : Option (Unit ⊕ (Int ⊕ Unit)))) = _ from e, hz, bind_some]
  congr 1
  have : decide (z ≥ 0) = !(decide (z < 0)) := by rw [Bool.eq_iff_iff]; simp
  rw [this, hz2, Bool.not_not]
def vDist (l : List Sign) : List Sign × Bool := if l.all gSign && decide (l.length ≤ 16) then (distF l [], true) else ([], false)
theorem i_Dist_eq {k : Nat} {l : List Sign} (hs : ∀ s ∈ l, smallS s) (hl : l.length ≤ 1048576) (hk : 10 ≤ k) : X.i_DistinctSigns k l = some (vDist l) := by
  unfold X.i_DistinctSigns vDist
  rw [i_areSigns_eq hs hk, show ((16 : Int)) = ((16 : Nat) : Int) from rfl, len16]
  cases h1 : l.all gSign <;> cases h2 : decide (l.length ≤ 16) <;> simp only [Bool.true_and, Bool.false_and, Bool.and_true, Bool.and_false, Bool.and_self, Bool.not_true, Bool.not_false, cond_true, cond_false, bind_some, if_true, Bool.false_eq_true, if_false]
  have hg : ∀ s ∈ l, gSign s = true := by simpa using h1
  have h16 : l.length ≤ 16 := by simpa using h2
  rw [dist_gen l [] 0 (by simp; omega) fun i x acc hx => ?_]
  · rfl
  · rw [i_normal_eq (hg x hx) hk, bind_some, containsS_eq, bind_some]
    by_cases h : nS x ∈ acc <;> simp [h]
theorem s_Dist_eq {k : Nat} {l : List Sign} (hs : ∀ s ∈ l, smallS s) (hl : l.length ≤ 1048576) (hk : 2000010 ≤ k) : X.s_DistinctSigns k l = some (vDist l) := by
  unfold X.s_DistinctSigns vDist
  rw [s_noList_eq hs hk]
  cases h1 : l.all gSign <;> cases h2 : decide (l.length ≤ 16) <;> simp only [Bool.true_and, Bool.false_and, Bool.and_true, Bool.and_false, Bool.and_self, Bool.not_true, Bool.not_false, cond_true, cond_false, bind_some, if_true, Bool.false_eq_true, if_false]
  have hg : ∀ s ∈ l, gSign s = true := by simpa using h1
  have h16 : l.length ≤ 16 := by simpa using h2
  rw [dist_gen l [] 0 (by simp; omega) fun i x acc hx => ?_]
  · rfl
  · obtain ⟨z, hz, hz2⟩ := noFind_eq acc (nS x)
    rw [s_noForm_eq (hg x hx) (by omega), bind_some, hz, bind_some, hz2]
    by_cases h : nS x ∈ acc <;> simp [h]
theorem vDist_len (l : List Sign) : (vDist l).1.length ≤ l.length := by
  unfold vDist
  split
  · have := distF_len l []
    simpa using this
  · simp
theorem Pure.FnExactNearestSign (l : List Sign) (o_l : okL okSign l) (s : Sign) (o_s : okSign s) : X.l_FnExactNearestSign 3000000 l s = some true := by
  unfold X.l_FnExactNearestSign
  obtain ⟨r0, hr0, d0⟩ := szSignS_eq (l := l) (z := 1048576) o_l (by omega) (by omega)
  rw [hr0, bind_some]
  rcases d0 with d0 | ⟨n_l, h_l, p0, q0⟩
  · have : decide (r0 < 0) = true := by simpa using d0
    rw [this]
    rfl
  have e0 : decide (r0 < 0) = false := by simpa using p0
  rw [e0, cond_false]
  obtain ⟨r1, hr1, d1⟩ := szSign_eq (s := s) (z := r0) (fitS_of o_s) (by omega) (by omega)
  rw [hr1, bind_some]
  rcases d1 with d1 | ⟨h_s, p1, q1⟩
  · have : decide (r1 < 0) = true := by simpa using d1
    rw [this]
    rfl
  have e1 : decide (r1 < 0) = false := by simpa using p1
  rw [e1, cond_false]
  simp only [toSignS_eq n_l,
    eqSignS_eq n_l,
    toSign_eq,
    bind_some,
    i_Near_eq h_l h_s n_l (show 100 ≤ 3000000 by omega),
    s_Near_eq h_l h_s n_l (show 2000010 ≤ 3000000 by omega)]
  simp
theorem Pure.FnExactSignsWithin (l : List Sign) (o_l : okL okSign l) (s : Sign) (o_s : okSign s) (n : Int) (o_n : okI n) : X.l_FnExactSignsWithin 3000000 l s n = some true := by
  unfold X.l_FnExactSignsWithin
  obtain ⟨r0, hr0, d0⟩ := szSignS_eq (l := l) (z := 1048576) o_l (by omega) (by omega)
  rw [hr0, bind_some]
  rcases d0 with d0 | ⟨n_l, h_l, p0, q0⟩
  · have : decide (r0 < 0) = true := by simpa using d0
    rw [this]
    rfl
  have e0 : decide (r0 < 0) = false := by simpa using p0
  rw [e0, cond_false]
  obtain ⟨r1, hr1, d1⟩ := szSign_eq (s := s) (z := r0) (fitS_of o_s) (by omega) (by omega)
  rw [hr1, bind_some]
  rcases d1 with d1 | ⟨h_s, p1, q1⟩
  · have : decide (r1 < 0) = true := by simpa using d1
    rw [this]
    rfl
  have e1 : decide (r1 < 0) = false := by simpa using p1
  rw [e1, cond_false]
  have hvl : (vWithin l s n).1.length ≤ 1048576 := (Nat.le_trans (vWithin_len l s n) n_l)
  have hpr : decide (1 + 1 * ((vWithin l s n).1.length : Int) < 0) = false := by simp; omega
  have hpa : decide (1 + 27 * (l.length : Int) < 0) = false := by simp; omega
  simp only [toSignS_eq n_l,
    eqSignS_eq n_l,
    toSign_eq,
    bind_some,
    i_Within_eq n h_l h_s n_l (show 100 ≤ 3000000 by omega),
    s_Within_eq n h_l h_s n_l (show 2000010 ≤ 3000000 by omega),
    eqIntS_eq hvl,
    markIntS_eq (show (0 : Int) ≤ 1 by omega) (show (1 : Int) ≤ 1000000000000 by omega) hvl,
    heldIntS_eq (show (0 : Int) ≤ 1 by omega) (show (1 : Int) ≤ 1000000000000 by omega) hvl,
    hpr,
    markSignS_eq (k := 1) (show (0 : Int) ≤ 1 by omega) (show (1 : Int) ≤ 1000000000000 by omega) n_l,
    hpa]
  simp
theorem Pure.FnExactLawfulSigns (l : List Sign) (o_l : okL okSign l) (c : List Constraint) (o_c : okL okConstraint c) : X.l_FnExactLawfulSigns 3000000 l c = some true := by
  unfold X.l_FnExactLawfulSigns
  obtain ⟨r0, hr0, d0⟩ := szSignS_eq (l := l) (z := 1048576) o_l (by omega) (by omega)
  rw [hr0, bind_some]
  rcases d0 with d0 | ⟨n_l, h_l, p0, q0⟩
  · have : decide (r0 < 0) = true := by simpa using d0
    rw [this]
    rfl
  have e0 : decide (r0 < 0) = false := by simpa using p0
  rw [e0, cond_false]
  obtain ⟨r1, hr1, d1⟩ := szConstraintS_eq (l := c) (z := r0) (by have := o_c.1; omega) (by omega) (by omega)
  rw [hr1, bind_some]
  rcases d1 with d1 | ⟨n_c, p1, q1⟩
  · have : decide (r1 < 0) = true := by simpa using d1
    rw [this]
    rfl
  have e1 : decide (r1 < 0) = false := by simpa using p1
  rw [e1, cond_false]
  have hvl : (vLaw l c).1.length ≤ 1048576 := (Nat.le_trans (vLaw_len l c) n_l)
  have hpr : decide (1 + 1 * ((vLaw l c).1.length : Int) < 0) = false := by simp; omega
  have hpa : decide (1 + 27 * (l.length : Int) + 2 * (c.length : Int) < 0) = false := by simp; omega
  simp only [toSignS_eq n_l,
    eqSignS_eq n_l,
    toConstraintS_eq n_c,
    eqConstraintS_eq n_c,
    bind_some,
    i_Law_eq c h_l n_l (show 10 ≤ 3000000 by omega),
    s_Law_eq h_l n_l n_c (show 2000010 ≤ 3000000 by omega),
    eqIntS_eq hvl,
    markIntS_eq (show (0 : Int) ≤ 1 by omega) (show (1 : Int) ≤ 1000000000000 by omega) hvl,
    heldIntS_eq (show (0 : Int) ≤ 1 by omega) (show (1 : Int) ≤ 1000000000000 by omega) hvl,
    hpr,
    markSignS_eq (k := 1) (show (0 : Int) ≤ 1 by omega) (show (1 : Int) ≤ 1000000000000 by omega) n_l,
    markConstraintS_eq (k := 1 + 27 * (l.length : Int)) (show (0 : Int) ≤ 1 + 27 * (l.length : Int) by omega) (show (1 + 27 * (l.length : Int) : Int) ≤ 1000000000000 by omega) n_c,
    hpa]
  simp
theorem Pure.FnExactDistinctSigns (l : List Sign) (o_l : okL okSign l) : X.l_FnExactDistinctSigns 3000000 l = some true := by
  unfold X.l_FnExactDistinctSigns
  obtain ⟨r0, hr0, d0⟩ := szSignS_eq (l := l) (z := 1048576) o_l (by omega) (by omega)
  rw [hr0, bind_some]
  rcases d0 with d0 | ⟨n_l, h_l, p0, q0⟩
  · have : decide (r0 < 0) = true := by simpa using d0
    rw [this]
    rfl
  have e0 : decide (r0 < 0) = false := by simpa using p0
  rw [e0, cond_false]
  have hvl : (vDist l).1.length ≤ 1048576 := (Nat.le_trans (vDist_len l) n_l)
  have hpr : decide (1 + 27 * ((vDist l).1.length : Int) < 0) = false := by simp; omega
  have hpa : decide (1 + 27 * (l.length : Int) < 0) = false := by simp; omega
  simp only [toSignS_eq n_l,
    eqSignS_eq n_l,
    bind_some,
    i_Dist_eq h_l n_l (show 10 ≤ 3000000 by omega),
    s_Dist_eq h_l n_l (show 2000010 ≤ 3000000 by omega),
    eqSignS_eq hvl,
    markSignS_eq (show (0 : Int) ≤ 1 by omega) (show (1 : Int) ≤ 1000000000000 by omega) hvl,
    heldSignS_eq (show (0 : Int) ≤ 1 by omega) (show (1 : Int) ≤ 1000000000000 by omega) hvl,
    hpr,
    markSignS_eq (k := 1) (show (0 : Int) ≤ 1 by omega) (show (1 : Int) ≤ 1000000000000 by omega) n_l,
    hpa]
  simp
end Go.Proofs.XC
