/- Plain laws of the plain functions: no program, no memory. By AI agents; no person has read it. -/
import Derived.Test.YtjjhlccjfdcfcaaGreatDoorPX
set_option linter.unusedVariables false
set_option linter.unusedSimpArgs false
set_option maxRecDepth 100000
set_option maxHeartbeats 40000000
namespace Go.Proofs.XC
open Go Go.RowKit
/-! ### Loops over an index -/
theorem wr_suc {n : Nat} (h : n ≤ 4611686018427387904) : wr ((n : Int) + 1) = ((n + 1 : Nat) : Int) := by
  rw [wr_of (by omega) (by omega)]
  omega
theorem getI_of {α : Type} {l : List α} {i : Nat} {x : α} (h : l[i]? = some x) : getI l (i : Int) = some x := by
  unfold getI
  rw [if_pos (by omega)]
  simpa using h
theorem lt_get {α : Type} {l : List α} {i : Nat} {x : α} (h : l[i]? = some x) : i < l.length := (List.getElem?_eq_some_iff.1 h).1
theorem dec_lt {α : Type} {l : List α} {i : Nat} {x : α} (h : l[i]? = some x) : decide ((i : Int) < (l.length : Int)) = true := by
  have := lt_get h
  simp
  omega
theorem dec_end (n : Nat) : decide ((n : Int) < (n : Int)) = false := by simp
theorem loopF {α σ τ ρ : Type} {body : τ → Option (τ ⊕ ρ)} {k : Nat} (en : Nat → σ → τ) (l : List α) (g : Nat → α → σ → σ ⊕ ρ) (f : σ → ρ) (inv : Nat → σ → Prop) {s0 : σ} (hv : inv 0 s0)
    (h1 : ∀ (i : Nat) x s, l[i]? = some x → inv i s → body (en i s) = some (match g i x s with | .inl s' => .inl (en (i + 1) s') | .inr r => .inr r))
    (h2 : ∀ s, inv l.length s → body (en l.length s) = some (.inr (f s)))
    (hi : ∀ (i : Nat) x s s', l[i]? = some x → inv i s → g i x s = .inl s' → inv (i + 1) s') (hk : l.length < k) : loopM body k (en 0 s0) = some (foldS g f l 0 s0) := by
  have key : ∀ (r : List α) (i k : Nat) (s : σ), l.drop i = r → i ≤ l.length → inv i s → r.length < k → loopM body k (en i s) = some (foldS g f r i s) := by
    intro r
    induction r with
    | nil =>
      intro i k s hd hi' hv hk
      have : l.length ≤ i := List.drop_eq_nil_iff.1 hd
      have hil : i = l.length := by omega
      subst hil
      obtain ⟨k, rfl⟩ : ∃ q, k = q + 1 := ⟨k - 1, by simp at hk; omega⟩
      rw [loopM_succ, h2 s hv]
      rfl
    | cons x r ih =>
      intro i k s hd hi' hv hk
      have hlt : i < l.length := by
        rcases Nat.lt_or_ge i l.length with h | h
        · exact h
        · rw [List.drop_eq_nil_of_le h] at hd; cases hd
      have hx : l[i]? = some x := by
        have := congrArg (fun l => l[0]?) hd
        simpa using this
      have hd' : l.drop (i + 1) = r := by rw [← List.drop_drop (i := 1) (j := i), hd]; rfl
      obtain ⟨k, rfl⟩ : ∃ q, k = q + 1 := ⟨k - 1, by simp at hk; omega⟩
      rw [loopM_succ, h1 i x s hx hv, bind_some, foldS]
      cases hg : g i x s with
      | inr q => rfl
      | inl s' => exact ih (i + 1) k s' hd' (by omega) (hi i x s s' hx hv hg) (by simp at hk ⊢; omega)
  exact key l 0 k s0 rfl (Nat.zero_le _) hv hk
/-- A copy, element by element. -/
theorem copy_gen {α β : Type} {e : Enc β} {z : β} (l : List α) (F : α → β) {body : Int × List β → Option ((Int × List β) ⊕ List β)} {k : Nat} (hby : e.by_ * l.length ≤ 140737488355328) (hlen : l.length ≤ 4611686018427387904) (hk : l.length < k)
    (h1 : ∀ (i : Nat) x s, l[i]? = some x → s.length = l.length → body ((i : Int), s) = some (.inl (((i + 1 : Nat) : Int), s.set i (F x)))) (h2 : ∀ s, body ((l.length : Int), s) = some (.inr s)) :
    (Option.bind (mkI e z (l.length : Int)) fun y => Option.bind (loopM body k (0, y)) fun r => some r) = some (l.map F) := by
  have hm : mkI e z (l.length : Int) = some (List.replicate l.length z) := by
    unfold mkI
    rw [if_pos ⟨by omega, by simpa using hby⟩]
    simp
  rw [hm, bind_some]
  have key : loopM body k (0, List.replicate l.length z) = some (l.map F) := by
    have := loopF (body := body) (k := k) (σ := List β) (ρ := List β) (fun i s => ((i : Int), s)) l (fun i x s => .inl (s.set i (F x))) (fun s => s) (fun i s => s.length = l.length ∧ ∀ j, j < i → s[j]? = (l[j]?).map F) (s0 := List.replicate l.length z) ⟨by simp, fun j hj => by omega⟩
      (fun i x s hx hv => h1 i x s hx hv.1) (fun s _ => h2 s) (fun i x s s' hx hv hg => by
        simp only [Sum.inl.injEq] at hg
        subst hg
        refine ⟨by rw [List.length_set]; exact hv.1, fun j hj => ?_⟩
        by_cases hji : i = j
        · subst hji
          rw [List.getElem?_set_self (by rw [hv.1]; exact lt_get hx), hx]
          rfl
        · rw [List.getElem?_set_ne hji]
          exact hv.2 j (by omega)) hk
    have e0 : ((0 : Int), List.replicate l.length z) = (((0 : Nat) : Int), List.replicate l.length z) := rfl
    rw [e0, this]
    congr 1
    have gen : ∀ (r : List α) (i : Nat) (s : List β), l.drop i = r → i ≤ l.length → s.length = l.length → (∀ j, j < i → s[j]? = (l[j]?).map F) → foldS (fun i x s => (Sum.inl (s.set i (F x)) : List β ⊕ List β)) (fun s => s) r i s = l.map F := by
      intro r
      induction r with
      | nil =>
        intro i s hd hi hs hv
        have : l.length ≤ i := List.drop_eq_nil_iff.1 hd
        apply List.ext_getElem?
        intro j
        show s[j]? = _
        rw [List.getElem?_map]
        rcases Nat.lt_or_ge j i with h | h
        · exact hv j h
        · rw [List.getElem?_eq_none (by omega), List.getElem?_eq_none (by omega)]
          rfl
      | cons x r ih =>
        intro i s hd hi hs hv
        have hx : l[i]? = some x := by
          have := congrArg (fun l => l[0]?) hd
          simpa using this
        have hd' : l.drop (i + 1) = r := by rw [← List.drop_drop (i := 1) (j := i), hd]; rfl
        have hlt := lt_get hx
        refine ih (i + 1) (s.set i (F x)) hd' (by omega) (by rw [List.length_set]; exact hs) fun j hj => ?_
        by_cases hji : i = j
        · subst hji
          rw [List.getElem?_set_self (by omega), hx]
          rfl
        · rw [List.getElem?_set_ne hji]
          exact hv j (by omega)
    exact gen l 0 _ rfl (Nat.zero_le _) (by simp) (fun j hj => by omega)
  rw [key]
  rfl
/-- Are two rows one? -/
theorem same_gen {α : Type} [DecidableEq α] (l m : List α) {body : Int → Option (Int ⊕ (Bool ⊕ Unit))} {k : Nat} (hlen : l.length = m.length) (hk : l.length < k)
    (h1 : ∀ (i : Nat) x y, l[i]? = some x → m[i]? = some y → body (i : Int) = some (if x = y then .inl ((i + 1 : Nat) : Int) else .inr (.inl false))) (h2 : body (l.length : Int) = some (.inr (.inr ()))) :
    orEl (loopM body k 0) (fun r => some r) (fun _ => some true) = some (decide (l = m)) := by
  have h := loopF (body := body) (k := k) (σ := Unit) (fun i _ => (i : Int)) (l.zip m) (fun i x _ => if x.1 = x.2 then .inl () else .inr (.inl false)) (fun _ => .inr ()) (fun _ _ => True) (s0 := ()) trivial
    (fun i x s hx _ => by
      obtain ⟨x1, x2⟩ := x
      rw [List.getElem?_zip_eq_some] at hx
      simp only
      rw [h1 i x1 x2 hx.1 hx.2]
      by_cases h : x1 = x2 <;> simp [h]) (fun s _ => by rw [List.length_zip, ← hlen, Nat.min_self]; exact h2) (fun _ _ _ _ _ _ _ => trivial) (by rw [List.length_zip, ← hlen, Nat.min_self]; exact hk)
  have e0 : (0 : Int) = ((0 : Nat) : Int) := rfl
  rw [e0, h]
  have gen : ∀ (l m : List α) (j : Nat), l.length = m.length → foldS (fun i (x : α × α) (_ : Unit) => if x.1 = x.2 then (Sum.inl () : Unit ⊕ (Bool ⊕ Unit)) else .inr (.inl false)) (fun _ => .inr ()) (l.zip m) j () = if l = m then .inr () else .inl false := by
    intro l
    induction l with
    | nil =>
      intro m j hl
      cases m with
      | nil => rfl
      | cons _ _ => cases hl
    | cons x l ih =>
      intro m j hl
      cases m with
      | nil => cases hl
      | cons y m =>
        simp only [List.zip_cons_cons, foldS, List.cons.injEq]
        by_cases hxy : x = y
        · simp only [hxy, if_true, true_and]
          exact ih m (j + 1) (by simpa using hl)
        · simp [hxy]
  rw [gen l m 0 hlen]
  by_cases h : l = m <;> simp [h, orEl]
/-- Sizes taken off, one by one. -/
theorem size_gen {α : Type} (l : List α) (F : α → Int → Option Int) (small : α → Prop) {body : Int × Int → Option ((Int × Int) ⊕ (Int ⊕ Int))} {k : Nat} {z : Int} (hz0 : 0 ≤ z) (hz : z ≤ 1048576) (hlen : l.length ≤ 4611686018427387904) (hk : l.length < k)
    (hF : ∀ x ∈ l, ∀ z : Int, 0 ≤ z → z ≤ 1048576 → ∃ r, F x z = some r ∧ (r < 0 ∨ (small x ∧ 0 ≤ r ∧ r ≤ z)))
    (h1 : ∀ (i : Nat) x (z : Int), l[i]? = some x → body (z, (i : Int)) = Option.bind (F x z) fun v => bif decide (v < 0) then some (.inr (.inl (-1))) else some (.inl (v, wr ((i : Int) + 1)))) (h2 : ∀ z : Int, body (z, (l.length : Int)) = some (.inr (.inr z))) :
    ∃ r, orEl (loopM body k (z, 0)) (fun r => some r) (fun n => some n) = some r ∧ (r < 0 ∨ ((∀ x ∈ l, small x) ∧ 0 ≤ r ∧ r ≤ z)) := by
  have gen : ∀ (r : List α) (i k : Nat) (z : Int), l.drop i = r → i ≤ l.length → 0 ≤ z → z ≤ 1048576 → r.length < k → ∃ q, loopM body k (z, (i : Int)) = some q ∧ (q = .inl (-1) ∨ ∃ z', q = .inr z' ∧ (∀ x ∈ r, small x) ∧ 0 ≤ z' ∧ z' ≤ z) := by
    intro r
    induction r with
    | nil =>
      intro i k z hd hi h0 hz hk
      have : l.length ≤ i := List.drop_eq_nil_iff.1 hd
      have hil : i = l.length := by omega
      subst hil
      obtain ⟨k, rfl⟩ : ∃ q, k = q + 1 := ⟨k - 1, by simp at hk; omega⟩
      rw [loopM_succ, h2]
      exact ⟨.inr z, rfl, .inr ⟨z, rfl, (fun x hx => by cases hx), h0, Int.le_refl _⟩⟩
    | cons x r ih =>
      intro i k z hd hi h0 hz hk
      have hx : l[i]? = some x := by
        have := congrArg (fun l => l[0]?) hd
        simpa using this
      have hd' : l.drop (i + 1) = r := by rw [← List.drop_drop (i := 1) (j := i), hd]; rfl
      have hlt := lt_get hx
      obtain ⟨k, rfl⟩ : ∃ q, k = q + 1 := ⟨k - 1, by simp at hk; omega⟩
      obtain ⟨v, hv, hv2⟩ := hF x (List.mem_of_getElem? hx) z h0 hz
      rw [loopM_succ, h1 i x z hx, hv, bind_some]
      rcases hv2 with hv2 | ⟨hs, hv2, hv3⟩
      · have : decide (v < 0) = true := by simpa using hv2
        rw [this, cond_true, bind_some]
        exact ⟨.inl (-1), rfl, .inl rfl⟩
      · have : decide (v < 0) = false := by simpa using hv2
        rw [this, cond_false, bind_some, wr_suc (by omega)]
        obtain ⟨q, hq, hq2⟩ := ih (i + 1) k v hd' (by omega) hv2 (by omega) (by simp at hk ⊢; omega)
        refine ⟨q, hq, ?_⟩
        rcases hq2 with hq2 | ⟨z', hq2, hq3, hq4, hq5⟩
        · exact .inl hq2
        · refine .inr ⟨z', hq2, fun y hy => ?_, hq4, by omega⟩
          rcases List.mem_cons.1 hy with rfl | hy
          · exact hs
          · exact hq3 y hy
  obtain ⟨q, hq, hq2⟩ := gen l 0 k z rfl (Nat.zero_le _) hz0 hz hk
  have e0 : (z, (0 : Int)) = (z, ((0 : Nat) : Int)) := rfl
  rw [e0, hq]
  rcases hq2 with rfl | ⟨z', rfl, h3, h4, h5⟩
  · exact ⟨-1, rfl, .inl (by omega)⟩
  · exact ⟨z', rfl, .inr ⟨h3, h4, h5⟩⟩
end Go.Proofs.XC
namespace Go.Proofs.XC
open Go Go.RowKit
/-! ### Entries: sizes, copies, comparison -/
theorem ex_mono {α : Type} {e : Option α} {P Q : α → Prop} (h : ∃ r, e = some r ∧ P r) (hpq : ∀ r, P r → Q r) : ∃ r, e = some r ∧ Q r := by
  obtain ⟨r, h1, h2⟩ := h
  exact ⟨r, h1, hpq r h2⟩
end Go.Proofs.XC
namespace Go.Proofs.XC
open Go Go.RowKit
/-! ### Lists of signs -/
theorem szSignS_eq {l : List Sign} {z : Int} (h : okL okSign l) (h0 : 0 ≤ z) (h1 : z ≤ 1048576) : ∃ r, X.l_szSignS 3000000 l z = some r ∧ (r < 0 ∨ (l.length ≤ 1048576 ∧ (∀ x ∈ l, smallS x) ∧ 0 ≤ r ∧ r ≤ z)) := by
  unfold X.l_szSignS
  have hg := h.1
  rw [wr_of (by omega) (by omega)]
  by_cases hz : z < l.length
  · have : decide (z - (l.length : Int) < 0) = true := by simp; omega
    rw [this]
    exact ⟨-1, rfl, .inl (by omega)⟩
  · have : decide (z - (l.length : Int) < 0) = false := by simp; omega
    rw [this, cond_false]
    refine ex_mono (size_gen l X.l_szSign smallS (by omega) (by omega) (by omega) (by omega) (fun x hx z h0 h1 => szSign_eq (fitS_of (h.2 x hx)) h0 h1) ?_ ?_) ?_
    · intro i x z hx
      simp only [dec_lt hx, cond_true, getI_of hx, bind_some]
    · intro z
      simp only [dec_end, cond_false]
    · rintro r (h2 | ⟨h2, h3, h4⟩)
      · exact .inl h2
      · exact .inr ⟨by omega, h2, h3, by omega⟩
theorem toSignS_eq {l : List Sign} (h : l.length ≤ 1048576) : X.l_toSignS 3000000 l = some l := by
  unfold X.l_toSignS
  refine (copy_gen l (fun x => x) (show 232 * l.length ≤ _ by omega) (by omega) (by omega) ?_ ?_).trans (by rw [List.map_id'])
  · intro i x s hx hs
    have hw := wr_suc (n := i) (by have := lt_get hx; omega)
    obtain ⟨y, hy⟩ : ∃ y, s[i]? = some y := ⟨_, List.getElem?_eq_getElem (by rw [hs]; exact lt_get hx)⟩
    simp only [dec_lt hx, cond_true, getI_of hx, bind_some, toSign_eq, getI_of hy, hw, Int.toNat_natCast]
  · intro s
    simp only [dec_end, cond_false]
theorem eqSignS_eq {l m : List Sign} (h : l.length ≤ 1048576) : X.l_eqSignS 3000000 l m = some (decide (l = m)) := by
  unfold X.l_eqSignS
  by_cases hl : l.length = m.length
  · have e : ((l.length : Int) != (m.length : Int)) = false := by simp [hl]
    rw [e, cond_false]
    refine same_gen l m hl (by omega) ?_ ?_
    · intro i x y hx hy
      have hw := wr_suc (n := i) (by have := lt_get hx; omega)
      simp only [dec_lt hx, cond_true, getI_of hx, getI_of hy, bind_some, eqSign_eq, hw]
      by_cases hxy : x = y <;> simp [hxy]
    · simp only [dec_end, cond_false]
  · have e : ((l.length : Int) != (m.length : Int)) = true := by simp; omega
    rw [e, cond_true]
    have : l ≠ m := fun e => hl (by rw [e])
    simp [this]
/-- All of them. -/
theorem all_range {α : Type} {F : α → Option Bool} (p : α → Bool) (l : List α) (hF : ∀ x ∈ l, F x = some (p x)) {G : Unit → Option Bool} :
    orEl (rangeM (fun (j2 : Int) (x3 : α) (_ : Unit) => (Option.bind (F x3) fun v => (bif (!v) then some (.inr (Sum.inl false)) else some (.inl ())))) (fun _ => some (Sum.inr ())) l 0 ()) (fun r => some r) G = if l.all p then G () else some false := by
  have key : ∀ (l : List α) (j : Nat), (∀ x ∈ l, F x = some (p x)) → rangeM (fun (j2 : Int) (x3 : α) (_ : Unit) => (Option.bind (F x3) fun v => (bif (!v) then some (.inr (Sum.inl false)) else some (.inl ())))) (fun _ => some (Sum.inr ())) l j () = some (if l.all p then .inr () else .inl false) := by
    intro l
    induction l with
    | nil => intro j _; rfl
    | cons x l ih =>
      intro j hF
      rw [rangeM_cons, hF x List.mem_cons_self, bind_some]
      cases h : p x
      · simp [h, bind_some]
      · simp only [Bool.not_true, cond_false, bind_some, List.all_cons, h, Bool.true_and]
        exact ih (j + 1) fun y hy => hF y (List.mem_cons_of_mem _ hy)
  rw [key l 0 hF]
  cases l.all p <;> rfl
theorem s_paList_eq {k : Nat} {l : List Sign} (hs : ∀ x ∈ l, smallS x) (hk : 2000010 ≤ k) : X.s_paList k l = some (l.all gSign && decide (l.length ≤ 20)) := by
  unfold X.s_paList
  rw [all_range gSign l fun x hx => s_siGood_eq (hs x hx) hk]
  cases l.all gSign
  · rfl
  · simp
    omega
theorem contains_eq (l : List Sign) (F : Sign → Option Bool) (p : Sign → Bool) (hF : ∀ x ∈ l, F x = some (p x)) : X.slices_ContainsFunc_i_Sign_i_Sign l F = some (l.any p) := by
  unfold X.slices_ContainsFunc_i_Sign_i_Sign X.slices_IndexFunc_i_Sign_i_Sign
  exact anyF_eq p F l hF
theorem i_allOf_eq (l : List Sign) (F : Sign → Option Bool) (p : Sign → Bool) (hF : ∀ x ∈ l, F x = some (p x)) : X.i_allOf_i_Sign l F = some (l.all p) := by
  unfold X.i_allOf_i_Sign
  rw [contains_eq l _ (fun x => !(p x)) fun x hx => by unfold X.i_allOf_i_Sign_1; rw [hF x hx]; rfl]
  simp only [bind_some]
  congr 1
  rw [List.any_eq_not_all_not]
  simp
theorem i_areSigns_eq {k : Nat} {l : List Sign} {n : Int} (hs : ∀ x ∈ l, smallS x) (hk : 10 ≤ k) : X.i_areSigns k l n = some (decide ((l.length : Int) ≤ n) && l.all gSign) := by
  unfold X.i_areSigns
  rw [i_allOf_eq l _ gSign fun x hx => i_IsSign_eq (hs x hx) hk]
  cases decide ((l.length : Int) ≤ n) <;> rfl
/-! ### Texts of compounds -/
def gMade (l : List Sign) : Bool := decide (2 ≤ l.length ∧ l.length ≤ 4) && l.all gSign
theorem i_isMade_eq {k : Nat} {l : List Sign} (hs : ∀ x ∈ l, smallS x) (hk : 10 ≤ k) : X.i_isMade k l = some (gMade l) := by
  unfold X.i_isMade gMade
  rw [i_areSigns_eq hs hk, bind_some]
  by_cases h1 : 2 ≤ l.length
  · by_cases h2 : l.length ≤ 4
    · have e1 : decide ((l.length : Int) ≥ 2) = true := by simp; omega
      have e2 : decide ((l.length : Int) ≤ 4) = true := by simp; omega
      rw [e1, e2]
      simp [h1, h2]
    · have e1 : decide ((l.length : Int) ≥ 2) = true := by simp; omega
      have e2 : decide ((l.length : Int) ≤ 4) = false := by simp; omega
      rw [e1, e2]
      simp [h1, h2]
  · have e1 : decide ((l.length : Int) ≥ 2) = false := by simp; omega
    rw [e1]
    simp [h1]
theorem s_cmGood_eq {k : Nat} {l : List Sign} (hs : ∀ x ∈ l, smallS x) (hk : 2000010 ≤ k) : X.s_cmGood k l = some (gMade l) := by
  unfold X.s_cmGood gMade
  rw [s_l1In_eq, bind_some, s_paList_eq hs hk, bind_some]
  have e : inR (l.length : Int) 2 4 = decide (2 ≤ l.length ∧ l.length ≤ 4) := by
    rw [Bool.eq_iff_iff, inR_iff, decide_eq_true_iff]
    omega
  rw [e]
  by_cases h : 2 ≤ l.length ∧ l.length ≤ 4
  · have : decide (l.length ≤ 20) = true := by simp; omega
    simp [h, this]
  · simp [h]
/-! ### Minimal pairs -/
end Go.Proofs.XC
namespace Go.Proofs.XC
open Go Go.RowKit
/-! ### Rows that are marked, and looked at again -/
def mks {α : Type} (mk : Int → α) (c k : Int) (n : Nat) : List α := (List.range n).map fun (i : Nat) => mk (k + c * (i : Int))
theorem mks_len {α : Type} (mk : Int → α) (c k : Int) (n : Nat) : (mks mk c k n).length = n := by simp [mks]
theorem mks_get {α : Type} (mk : Int → α) (c k : Int) {n i : Nat} (h : i < n) : (mks mk c k n)[i]? = some (mk (k + c * (i : Int))) := by simp [mks, h]
theorem mul_le_big {c : Int} {i n : Nat} (hc0 : 0 ≤ c) (hc : c ≤ 100) (hi : i ≤ n) (hn : n ≤ 1048576) : 0 ≤ c * (i : Int) ∧ c * (i : Int) ≤ 104857600 := by
  constructor
  · exact Int.mul_nonneg hc0 (by omega)
  · have h1 : c * (i : Int) ≤ 100 * (i : Int) := Int.mul_le_mul_of_nonneg_right hc (by omega)
    omega
theorem mark_gen {α : Type} (mk : Int → α) {c k : Int} (l : List α) {body : Int × Int × List α → Option ((Int × Int × List α) ⊕ (Int × List α))} {K : Nat} (hc0 : 0 ≤ c) (hc : c ≤ 100) (hk0 : 0 ≤ k) (hk : k ≤ 1000000000000) (hlen : l.length ≤ 1048576) (hK : l.length < K)
    (h1 : ∀ (i : Nat) (q : Int) (s : List α) (y : α), 0 ≤ q → q ≤ 2000000000000 → i < l.length → s[i]? = some y → body (q, (i : Int), s) = some (.inl (q + c, ((i + 1 : Nat) : Int), s.set i (mk q))))
    (h2 : ∀ (q : Int) (s : List α), body (q, (l.length : Int), s) = some (.inr (q, s))) : loopM body K (k, 0, l) = some (k + c * (l.length : Int), mks mk c k l.length) := by
  have gen : ∀ (d i K : Nat) (s : List α), i + d = l.length → s.length = l.length → (∀ j, j < i → s[j]? = some (mk (k + c * (j : Int)))) → d < K → loopM body K (k + c * (i : Int), (i : Int), s) = some (k + c * (l.length : Int), mks mk c k l.length) := by
    intro d
    induction d with
    | zero =>
      intro i K s hi hs hv hK
      have hil : i = l.length := by omega
      subst hil
      obtain ⟨K, rfl⟩ : ∃ q, K = q + 1 := ⟨K - 1, by omega⟩
      rw [loopM_succ, h2]
      simp only [bind_some]
      congr 2
      apply List.ext_getElem?
      intro j
      rcases Nat.lt_or_ge j l.length with h | h
      · rw [hv j h, mks_get mk c k h]
      · rw [List.getElem?_eq_none (by omega), List.getElem?_eq_none (by rw [mks_len]; omega)]
    | succ d ih =>
      intro i K s hi hs hv hK
      obtain ⟨K, rfl⟩ : ∃ q, K = q + 1 := ⟨K - 1, by omega⟩
      obtain ⟨m1, m2⟩ := mul_le_big hc0 hc (show i ≤ l.length by omega) hlen
      obtain ⟨y, hy⟩ : ∃ y, s[i]? = some y := ⟨_, List.getElem?_eq_getElem (by omega)⟩
      rw [loopM_succ, h1 i _ s y (by omega) (by omega) (by omega) hy, bind_some]
      have e : k + c * (i : Int) + c = k + c * ((i + 1 : Nat) : Int) := by
        rw [Int.natCast_add, Int.mul_add]
        simp
        omega
      simp only [e]
      refine ih (i + 1) K _ (by omega) (by rw [List.length_set]; exact hs) (fun j hj => ?_) (by omega)
      by_cases hji : i = j
      · subst hji
        rw [List.getElem?_set_self (by omega)]
      · rw [List.getElem?_set_ne hji]
        exact hv j (by omega)
  have := gen l.length 0 K l (by omega) rfl (fun j hj => by omega) hK
  simpa using this
theorem held_gen {α ρ : Type} (mk : Int → α) {c k : Int} {n : Nat} {body : Int × Int → Option ((Int × Int) ⊕ (ρ ⊕ Int))} {K : Nat} (hc0 : 0 ≤ c) (hc : c ≤ 100) (hk0 : 0 ≤ k) (hk : k ≤ 1000000000000) (hlen : n ≤ 1048576) (hK : n < K)
    (h1 : ∀ (i : Nat) (q : Int), 0 ≤ q → q ≤ 2000000000000 → i < n → (mks mk c k n)[i]? = some (mk q) → body (q, (i : Int)) = some (.inl (q + c, ((i + 1 : Nat) : Int))))
    (h2 : ∀ (q : Int), body (q, (n : Int)) = some (.inr (.inr q))) : loopM body K (k, 0) = some (.inr (k + c * (n : Int))) := by
  have gen : ∀ (d i K : Nat), i + d = n → d < K → loopM body K (k + c * (i : Int), (i : Int)) = some (.inr (k + c * (n : Int))) := by
    intro d
    induction d with
    | zero =>
      intro i K hi hK
      have hil : i = n := by omega
      subst hil
      obtain ⟨K, rfl⟩ : ∃ q, K = q + 1 := ⟨K - 1, by omega⟩
      rw [loopM_succ, h2]
      rfl
    | succ d ih =>
      intro i K hi hK
      obtain ⟨K, rfl⟩ : ∃ q, K = q + 1 := ⟨K - 1, by omega⟩
      obtain ⟨m1, m2⟩ := mul_le_big hc0 hc (show i ≤ n by omega) hlen
      rw [loopM_succ, h1 i _ (by omega) (by omega) (by omega) (mks_get mk c k (by omega)), bind_some]
      have e : k + c * (i : Int) + c = k + c * ((i + 1 : Nat) : Int) := by
        rw [Int.natCast_add, Int.mul_add]
        simp
        omega
      simp only [e]
      exact ih (i + 1) K (by omega) (by omega)
  have := gen n 0 K (by omega) hK
  simpa using this
theorem markIntS_eq {l : List Int} {k : Int} (hk0 : 0 ≤ k) (hk : k ≤ 1000000000000) (hlen : l.length ≤ 1048576) : X.l_markIntS 3000000 l k = some (k + 1 * (l.length : Int), mks (fun q => q) 1 k l.length) := by
  unfold X.l_markIntS
  rw [mark_gen (fun q => q) (c := 1) l (by omega) (by omega) hk0 hk hlen (by omega) ?_ ?_]
  · rfl
  · intro i q s y h0 h1 hi hy
    have hd : decide ((i : Int) < (l.length : Int)) = true := by simp; omega
    simp only [hd, cond_true, getI_of hy, bind_some, wr_suc (show i ≤ 4611686018427387904 by omega), Int.toNat_natCast]
    rw [wr_of (by omega) (by omega)]
  · intro q s
    simp only [dec_end, cond_false]
theorem heldIntS_eq {n : Nat} {k : Int} (hk0 : 0 ≤ k) (hk : k ≤ 1000000000000) (hlen : n ≤ 1048576) : X.l_heldIntS 3000000 (mks (fun q => q) 1 k n) k = some (k + 1 * (n : Int)) := by
  unfold X.l_heldIntS
  rw [held_gen (fun q => q) (c := 1) (n := n) (by omega) (by omega) hk0 hk hlen (by omega) ?_ ?_]
  · rfl
  · intro i q h0 h1 hi hy
    have hd : decide ((i : Int) < ((mks (fun q => q) 1 k n).length : Int)) = true := by rw [mks_len]; simp; omega
    have hq : (q != q) = false := by simp
    simp only [hd, cond_true, getI_of hy, bind_some, wr_suc (show i ≤ 4611686018427387904 by omega), hq, cond_false]
    rw [wr_of (by omega) (by omega)]
  · intro q
    have hd : decide ((n : Int) < ((mks (fun q => q) 1 k n).length : Int)) = false := by rw [mks_len]; simp
    simp only [hd, cond_false]
theorem eqIntS_eq {l m : List Int} (h : l.length ≤ 1048576) : X.l_eqIntS 3000000 l m = some (decide (l = m)) := by
  unfold X.l_eqIntS
  by_cases hl : l.length = m.length
  · have e : ((l.length : Int) != (m.length : Int)) = false := by simp [hl]
    rw [e, cond_false]
    refine same_gen l m hl (by omega) ?_ ?_
    · intro i x y hx hy
      have hw := wr_suc (n := i) (by have := lt_get hx; omega)
      simp only [dec_lt hx, cond_true, getI_of hx, getI_of hy, bind_some, hw, bne, beq_dec]
      by_cases hxy : x = y <;> simp [hxy]
    · simp only [dec_end, cond_false]
  · have e : ((l.length : Int) != (m.length : Int)) = true := by simp; omega
    rw [e, cond_true]
    have : l ≠ m := fun e => hl (by rw [e])
    simp [this]
/-! ### PartsApart -/
end Go.Proofs.XC
namespace Go.Proofs.XC
open Go Go.RowKit
/-! ### Texts of marks -/
theorem mt_loop : ∀ (d K : Nat) (n : Int) (t : Str), 0 ≤ n → n ≤ 9223372036854775807 → n < (10 : Int) ^ d → t.length + d ≤ 100 → d < K → ∃ r : Str, r.length ≤ 100 ∧ loopM (fun (x : Int × Str) => match x with | (n2, t3) => (bif decide (n2 > 0) then (Option.bind (catS (strOf ([(wk .u8 (wr (48 + (Int.tmod n2 10))))] : List Int)) t3) fun y5_7 => some (.inl ((wr (Int.tdiv n2 10)), y5_7))) else some (.inr t3))) K (n, t) = some r := by
  intro d
  induction d with
  | zero =>
    intro K n t h0 hb h1 hl hK
    obtain ⟨K, rfl⟩ : ∃ q, K = q + 1 := ⟨K - 1, by omega⟩
    have : n = 0 := by simp at h1; omega
    subst this
    exact ⟨t, by omega, rfl⟩
  | succ d ih =>
    intro K n t h0 hb h1 hl hK
    obtain ⟨K, rfl⟩ : ∃ q, K = q + 1 := ⟨K - 1, by omega⟩
    rw [loopM_succ]
    by_cases hn : n > 0
    · have e : decide (n > 0) = true := by simpa using hn
      simp only [e, cond_true]
      have hdiv : Int.tdiv n 10 = n / 10 := Int.tdiv_eq_ediv_of_nonneg h0
      rw [catS_of (by simp [strOf]; omega), bind_some, bind_some, hdiv, wr_of (by omega) (by omega)]
      refine ih K (n / 10) _ (by omega) (by omega) ?_ (by simp [strOf]; omega) (by omega)
      rw [Int.pow_succ] at h1
      omega
    · have e : decide (n > 0) = false := by simpa using hn
      simp only [e, cond_false]
      exact ⟨t, by omega, rfl⟩
def mt (z : Int) : Str := (X.l_markText 3000000 z).getD []
theorem mt_of {z : Int} (h : z ≤ 9223372036854775807) : X.l_markText 3000000 z = some (mt z) := by
  have key : ∃ t, X.l_markText 3000000 z = some t := by
    unfold X.l_markText
    by_cases hz : z ≤ 0
    · exact ⟨[109, 48], by simp [hz]⟩
    · have hd : decide (z ≤ 0) = false := by simp; omega
      rw [hd, cond_false]
      have hp : z < (10 : Int) ^ 20 := by
        have : (10 : Int) ^ 20 = 100000000000000000000 := by decide
        omega
      obtain ⟨r, hr, h2⟩ := mt_loop 20 3000000 z [] (by omega) h hp (by simp) (by omega)
      refine ⟨109 :: r, ?_⟩
      rw [h2, bind_some, catS_of (by simp; omega)]
      rfl
  obtain ⟨t, ht⟩ := key
  rw [mt, ht]
  rfl
theorem wr_le (z : Int) : wr z ≤ 9223372036854775807 := by
  show IntKind.i64.wrap z ≤ _
  rw [IntKind.wrap_i64]
  omega
theorem mt_wr (z : Int) : X.l_markText 3000000 (wr z) = some (mt (wr z)) := mt_of (wr_le z)
theorem wr_up {z : Int} (h0 : 0 ≤ z) (h1 : z ≤ 3000000000000) : wr (z + 1) = z + 1 := wr_of (by omega) (by omega)
def mkSign (q : Int) : Sign := (⟨(⟨(⟨q, (wr (q + 1)), (wr ((wr (q + 1)) + 1)), (wr ((wr ((wr (q + 1)) + 1)) + 1)), (wr ((wr ((wr ((wr (q + 1)) + 1)) + 1)) + 1)), ((Int.tmod (wr ((wr ((wr ((wr ((wr (q + 1)) + 1)) + 1)) + 1)) + 1)) 3) == 0)⟩ : Shape), (⟨(wr ((wr ((wr ((wr ((wr ((wr (q + 1)) + 1)) + 1)) + 1)) + 1)) + 1)), (wr ((wr ((wr ((wr ((wr ((wr ((wr (q + 1)) + 1)) + 1)) + 1)) + 1)) + 1)) + 1))⟩ : Orient), (⟨(wr ((wr ((wr ((wr ((wr ((wr ((wr ((wr (q + 1)) + 1)) + 1)) + 1)) + 1)) + 1)) + 1)) + 1)), (wr ((wr ((wr ((wr ((wr ((wr ((wr ((wr ((wr (q + 1)) + 1)) + 1)) + 1)) + 1)) + 1)) + 1)) + 1)) + 1)), ((Int.tmod (wr ((wr ((wr ((wr ((wr ((wr ((wr ((wr ((wr ((wr (q + 1)) + 1)) + 1)) + 1)) + 1)) + 1)) + 1)) + 1)) + 1)) + 1)) 3) == 0)⟩ : Place), (⟨(mt (wr ((wr ((wr ((wr ((wr ((wr ((wr ((wr ((wr ((wr ((wr (q + 1)) + 1)) + 1)) + 1)) + 1)) + 1)) + 1)) + 1)) + 1)) + 1)) + 1))), (wr ((wr ((wr ((wr ((wr ((wr ((wr ((wr ((wr ((wr ((wr ((wr (q + 1)) + 1)) + 1)) + 1)) + 1)) + 1)) + 1)) + 1)) + 1)) + 1)) + 1)) + 1))⟩ : Move)⟩ : Hand), ((Int.tmod (wr ((wr ((wr ((wr ((wr ((wr ((wr ((wr ((wr ((wr ((wr ((wr ((wr (q + 1)) + 1)) + 1)) + 1)) + 1)) + 1)) + 1)) + 1)) + 1)) + 1)) + 1)) + 1)) + 1)) 3) == 0), (⟨(⟨(wr ((wr ((wr ((wr ((wr ((wr ((wr ((wr ((wr ((wr ((wr ((wr ((wr ((wr (q + 1)) + 1)) + 1)) + 1)) + 1)) + 1)) + 1)) + 1)) + 1)) + 1)) + 1)) + 1)) + 1)) + 1)), (wr ((wr ((wr ((wr ((wr ((wr ((wr ((wr ((wr ((wr ((wr ((wr ((wr ((wr ((wr (q + 1)) + 1)) + 1)) + 1)) + 1)) + 1)) + 1)) + 1)) + 1)) + 1)) + 1)) + 1)) + 1)) + 1)) + 1)), (wr ((wr ((wr ((wr ((wr ((wr ((wr ((wr ((wr ((wr ((wr ((wr ((wr ((wr ((wr ((wr (q + 1)) + 1)) + 1)) + 1)) + 1)) + 1)) + 1)) + 1)) + 1)) + 1)) + 1)) + 1)) + 1)) + 1)) + 1)) + 1)), (wr ((wr ((wr ((wr ((wr ((wr ((wr ((wr ((wr ((wr ((wr ((wr ((wr ((wr ((wr ((wr ((wr (q + 1)) + 1)) + 1)) + 1)) + 1)) + 1)) + 1)) + 1)) + 1)) + 1)) + 1)) + 1)) + 1)) + 1)) + 1)) + 1)) + 1)), (wr ((wr ((wr ((wr ((wr ((wr ((wr ((wr ((wr ((wr ((wr ((wr ((wr ((wr ((wr ((wr ((wr ((wr (q + 1)) + 1)) + 1)) + 1)) + 1)) + 1)) + 1)) + 1)) + 1)) + 1)) + 1)) + 1)) + 1)) + 1)) + 1)) + 1)) + 1)) + 1)), ((Int.tmod (wr ((wr ((wr ((wr ((wr ((wr ((wr ((wr ((wr ((wr ((wr ((wr ((wr ((wr ((wr ((wr ((wr ((wr ((wr (q + 1)) + 1)) + 1)) + 1)) + 1)) + 1)) + 1)) + 1)) + 1)) + 1)) + 1)) + 1)) + 1)) + 1)) + 1)) + 1)) + 1)) + 1)) + 1)) 3) == 0)⟩ : Shape), (⟨(wr ((wr ((wr ((wr ((wr ((wr ((wr ((wr ((wr ((wr ((wr ((wr ((wr ((wr ((wr ((wr ((wr ((wr ((wr ((wr (q + 1)) + 1)) + 1)) + 1)) + 1)) + 1)) + 1)) + 1)) + 1)) + 1)) + 1)) + 1)) + 1)) + 1)) + 1)) + 1)) + 1)) + 1)) + 1)) + 1)), (wr ((wr ((wr ((wr ((wr ((wr ((wr ((wr ((wr ((wr ((wr ((wr ((wr ((wr ((wr ((wr ((wr ((wr ((wr ((wr ((wr (q + 1)) + 1)) + 1)) + 1)) + 1)) + 1)) + 1)) + 1)) + 1)) + 1)) + 1)) + 1)) + 1)) + 1)) + 1)) + 1)) + 1)) + 1)) + 1)) + 1)) + 1))⟩ : Orient), (⟨(wr ((wr ((wr ((wr ((wr ((wr ((wr ((wr ((wr ((wr ((wr ((wr ((wr ((wr ((wr ((wr ((wr ((wr ((wr ((wr ((wr ((wr (q + 1)) + 1)) + 1)) + 1)) + 1)) + 1)) + 1)) + 1)) + 1)) + 1)) + 1)) + 1)) + 1)) + 1)) + 1)) + 1)) + 1)) + 1)) + 1)) + 1)) + 1)) + 1)), (wr ((wr ((wr ((wr ((wr ((wr ((wr ((wr ((wr ((wr ((wr ((wr ((wr ((wr ((wr ((wr ((wr ((wr ((wr ((wr ((wr ((wr ((wr (q + 1)) + 1)) + 1)) + 1)) + 1)) + 1)) + 1)) + 1)) + 1)) + 1)) + 1)) + 1)) + 1)) + 1)) + 1)) + 1)) + 1)) + 1)) + 1)) + 1)) + 1)) + 1)) + 1)), ((Int.tmod (wr ((wr ((wr ((wr ((wr ((wr ((wr ((wr ((wr ((wr ((wr ((wr ((wr ((wr ((wr ((wr ((wr ((wr ((wr ((wr ((wr ((wr ((wr ((wr (q + 1)) + 1)) + 1)) + 1)) + 1)) + 1)) + 1)) + 1)) + 1)) + 1)) + 1)) + 1)) + 1)) + 1)) + 1)) + 1)) + 1)) + 1)) + 1)) + 1)) + 1)) + 1)) + 1)) + 1)) 3) == 0)⟩ : Place), (⟨(mt (wr ((wr ((wr ((wr ((wr ((wr ((wr ((wr ((wr ((wr ((wr ((wr ((wr ((wr ((wr ((wr ((wr ((wr ((wr ((wr ((wr ((wr ((wr ((wr ((wr (q + 1)) + 1)) + 1)) + 1)) + 1)) + 1)) + 1)) + 1)) + 1)) + 1)) + 1)) + 1)) + 1)) + 1)) + 1)) + 1)) + 1)) + 1)) + 1)) + 1)) + 1)) + 1)) + 1)) + 1)) + 1))), (wr ((wr ((wr ((wr ((wr ((wr ((wr ((wr ((wr ((wr ((wr ((wr ((wr ((wr ((wr ((wr ((wr ((wr ((wr ((wr ((wr ((wr ((wr ((wr ((wr ((wr (q + 1)) + 1)) + 1)) + 1)) + 1)) + 1)) + 1)) + 1)) + 1)) + 1)) + 1)) + 1)) + 1)) + 1)) + 1)) + 1)) + 1)) + 1)) + 1)) + 1)) + 1)) + 1)) + 1)) + 1)) + 1)) + 1))⟩ : Move)⟩ : Hand)⟩ : Sign)
theorem markSignS_eq {l : List Sign} {k : Int} (hk0 : 0 ≤ k) (hk : k ≤ 1000000000000) (hlen : l.length ≤ 1048576) : X.l_markSignS 3000000 l k = some (k + 27 * (l.length : Int), mks mkSign 27 k l.length) := by
  unfold X.l_markSignS
  rw [mark_gen mkSign (c := 27) l (by omega) (by omega) hk0 hk hlen (by omega) ?_ ?_]
  · rfl
  · intro i q s y h0 h1 hi hy
    have hd : decide ((i : Int) < (l.length : Int)) = true := by simp; omega
    have hw : (wr ((wr ((wr ((wr ((wr ((wr ((wr ((wr ((wr ((wr ((wr ((wr ((wr ((wr ((wr ((wr ((wr ((wr ((wr ((wr ((wr ((wr ((wr ((wr ((wr ((wr ((wr (q + 1)) + 1)) + 1)) + 1)) + 1)) + 1)) + 1)) + 1)) + 1)) + 1)) + 1)) + 1)) + 1)) + 1)) + 1)) + 1)) + 1)) + 1)) + 1)) + 1)) + 1)) + 1)) + 1)) + 1)) + 1)) + 1)) + 1)) = q + 27 := by
      simp (disch := omega) only [wr_up]
      omega
    simp only [hd, cond_true, getI_of hy, bind_some, mt_wr, wr_suc (show i ≤ 4611686018427387904 by omega), Int.toNat_natCast]
    rw [hw]
    rfl
  · intro q s
    simp only [dec_end, cond_false]
end Go.Proofs.XC
