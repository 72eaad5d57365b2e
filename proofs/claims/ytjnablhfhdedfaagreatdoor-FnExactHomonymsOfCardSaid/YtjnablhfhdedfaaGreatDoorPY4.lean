/- Plain laws of the plain functions: no program, no memory. By AI agents; no person has read it. -/
import Derived.Test.YtjnablhfhdedfaaGreatDoorPY3
set_option linter.unusedVariables false
set_option linter.unusedSimpArgs false
set_option maxRecDepth 100000
set_option maxHeartbeats 40000000
namespace Go.Proofs.XC
open Go Go.RowKit
/-! ### Lists of signs -/
theorem szSignS_eq {l : List Sign} {z : Int} (h : okL okSign l) (h0 : 0 ≤ z) (h1 : z ≤ 1048576) : ∃ r, X.l_szSignS 3000000 l z = some r ∧ (r < 0 ∨ (l.length ≤ 1048576 ∧ (∀ x ∈ l, smallS x) ∧ 0 ≤ r ∧ r ≤ z)) := by
  unfold X.l_szSignS
  have hg := h.1
  rw [wr_of (by omega) (by omega)]
  by_cases hz : z < l.length
  · have : decide (z - (l.length : Int) < 0) = true := by simp; omega
    rw [this]
    exact ⟨-1, rfl, .inl (by omega)⟩
  · have : decide (z - (l.length : Int) < 0) = false := by simp; omega
    rw [this, cond_false]
    refine ex_mono (size_gen l X.l_szSign smallS (by omega) (by omega) (by omega) (by omega) (fun x hx z h0 h1 => szSign_eq (fitS_of (h.2 x hx)) h0 h1) ?_ ?_) ?_
    · intro i x z hx
      simp only [dec_lt hx, cond_true, getI_of hx, bind_some]
    · intro z
      simp only [dec_end, cond_false]
    · rintro r (h2 | ⟨h2, h3, h4⟩)
      · exact .inl h2
      · exact .inr ⟨by omega, h2, h3, by omega⟩
theorem toSignS_eq {l : List Sign} (h : l.length ≤ 1048576) : X.l_toSignS 3000000 l = some l := by
  unfold X.l_toSignS
  refine (copy_gen l (fun x => x) (show 232 * l.length ≤ _ by omega) (by omega) (by omega) ?_ ?_).trans (by rw [List.map_id'])
  · intro i x s hx hs
    have hw := wr_suc (n := i) (by have := lt_get hx; omega)
    obtain ⟨y, hy⟩ : ∃ y, s[i]? = some y := ⟨_, List.getElem?_eq_getElem (by rw [hs]; exact lt_get hx)⟩
    simp only [dec_lt hx, cond_true, getI_of hx, bind_some, toSign_eq, getI_of hy, hw, Int.toNat_natCast]
  · intro s
    simp only [dec_end, cond_false]
theorem eqSignS_eq {l m : List Sign} (h : l.length ≤ 1048576) : X.l_eqSignS 3000000 l m = some (decide (l = m)) := by
  unfold X.l_eqSignS
  by_cases hl : l.length = m.length
  · have e : ((l.length : Int) != (m.length : Int)) = false := by simp [hl]
    rw [e, cond_false]
    refine same_gen l m hl (by omega) ?_ ?_
    · intro i x y hx hy
      have hw := wr_suc (n := i) (by have := lt_get hx; omega)
      simp only [dec_lt hx, cond_true, getI_of hx, getI_of hy, bind_some, eqSign_eq, hw]
      by_cases hxy : x = y <;> simp [hxy]
    · simp only [dec_end, cond_false]
  · have e : ((l.length : Int) != (m.length : Int)) = true := by simp; omega
    rw [e, cond_true]
    have : l ≠ m := fun e => hl (by rw [e])
    simp [this]
/-- All of them. -/
theorem all_range {α : Type} {F : α → Option Bool} (p : α → Bool) (l : List α) (hF : ∀ x ∈ l, F x = some (p x)) {G : Unit → Option Bool} :
    orEl (rangeM (fun (j2 : Int) (x3 : α) (_ : Unit) => (Option.bind (F x3) fun v => (bif (!v) then some (.inr (Sum.inl false)) else some (.inl ())))) (fun _ => some (Sum.inr ())) l 0 ()) (fun r => some r) G = if l.all p then G () else some false := by
  have key : ∀ (l : List α) (j : Nat), (∀ x ∈ l, F x = some (p x)) → rangeM (fun (j2 : Int) (x3 : α) (_ : Unit) => (Option.bind (F x3) fun v => (bif (!v) then some (.inr (Sum.inl false)) else some (.inl ())))) (fun _ => some (Sum.inr ())) l j () = some (if l.all p then .inr () else .inl false) := by
    intro l
    induction l with
    | nil => intro j _; rfl
    | cons x l ih =>
      intro j hF
      rw [rangeM_cons, hF x List.mem_cons_self, bind_some]
      cases h : p x
      · simp [h, bind_some]
      · simp only [Bool.not_true, cond_false, bind_some, List.all_cons, h, Bool.true_and]
        exact ih (j + 1) fun y hy => hF y (List.mem_cons_of_mem _ hy)
  rw [key l 0 hF]
  cases l.all p <;> rfl
theorem s_paList_eq {k : Nat} {l : List Sign} (hs : ∀ x ∈ l, smallS x) (hk : 2000010 ≤ k) : X.s_paList k l = some (l.all gSign && decide (l.length ≤ 20)) := by
  unfold X.s_paList
  rw [all_range gSign l fun x hx => s_siGood_eq (hs x hx) hk]
  cases l.all gSign
  · rfl
  · simp
    omega
theorem s_noList_eq {k : Nat} {l : List Sign} (hs : ∀ x ∈ l, smallS x) (hk : 2000010 ≤ k) : X.s_noList k l = some (l.all gSign && decide (l.length ≤ 16)) := by
  unfold X.s_noList
  rw [all_range gSign l fun x hx => s_siGood_eq (hs x hx) hk]
  cases l.all gSign
  · rfl
  · simp
    omega
theorem contains_eq (l : List Sign) (F : Sign → Option Bool) (p : Sign → Bool) (hF : ∀ x ∈ l, F x = some (p x)) : X.slices_ContainsFunc_i_Sign_i_Sign l F = some (l.any p) := by
  unfold X.slices_ContainsFunc_i_Sign_i_Sign X.slices_IndexFunc_i_Sign_i_Sign
  exact anyF_eq p F l hF
theorem i_allOf_eq (l : List Sign) (F : Sign → Option Bool) (p : Sign → Bool) (hF : ∀ x ∈ l, F x = some (p x)) : X.i_allOf_i_Sign l F = some (l.all p) := by
  unfold X.i_allOf_i_Sign
  rw [contains_eq l _ (fun x => !(p x)) fun x hx => by unfold X.i_allOf_i_Sign_1; rw [hF x hx]; rfl]
  simp only [bind_some]
  congr 1
  rw [List.any_eq_not_all_not]
  simp
theorem i_areSigns_eq {k : Nat} {l : List Sign} {n : Int} (hs : ∀ x ∈ l, smallS x) (hk : 10 ≤ k) : X.i_areSigns k l n = some (decide ((l.length : Int) ≤ n) && l.all gSign) := by
  unfold X.i_areSigns
  rw [i_allOf_eq l _ gSign fun x hx => i_IsSign_eq (hs x hx) hk]
  cases decide ((l.length : Int) ≤ n) <;> rfl
/-! ### Texts of compounds -/
def tSign (s : Sign) : Str := if s.Two then tHand s.Main ++ [43] ++ tHand s.Other else tHand s.Main
theorem tSign_len {s : Sign} (g : gSign s = true) : (tSign s).length ≤ 61 := by
  have h1 := tHand_len (gSign_main g)
  unfold tSign
  split
  · rename_i h
    have h2 := tHand_len (gSign_other g h).1
    simp
    omega
  · omega
def gMade (l : List Sign) : Bool := decide (2 ≤ l.length ∧ l.length ≤ 4) && l.all gSign
theorem i_isMade_eq {k : Nat} {l : List Sign} (hs : ∀ x ∈ l, smallS x) (hk : 10 ≤ k) : X.i_isMade k l = some (gMade l) := by
  unfold X.i_isMade gMade
  rw [i_areSigns_eq hs hk, bind_some]
  by_cases h1 : 2 ≤ l.length
  · by_cases h2 : l.length ≤ 4
    · have e1 : decide ((l.length : Int) ≥ 2) = true := by simp; omega
      have e2 : decide ((l.length : Int) ≤ 4) = true := by simp; omega
      rw [e1, e2]
      simp [h1, h2]
    · have e1 : decide ((l.length : Int) ≥ 2) = true := by simp; omega
      have e2 : decide ((l.length : Int) ≤ 4) = false := by simp; omega
      rw [e1, e2]
      simp [h1, h2]
  · have e1 : decide ((l.length : Int) ≥ 2) = false := by simp; omega
    rw [e1]
    simp [h1]
theorem s_cmGood_eq {k : Nat} {l : List Sign} (hs : ∀ x ∈ l, smallS x) (hk : 2000010 ≤ k) : X.s_cmGood k l = some (gMade l) := by
  unfold X.s_cmGood gMade
  rw [s_l1In_eq, bind_some, s_paList_eq hs hk, bind_some]
  have e : inR (l.length : Int) 2 4 = decide (2 ≤ l.length ∧ l.length ≤ 4) := by
    rw [Bool.eq_iff_iff, inR_iff, decide_eq_true_iff]
    omega
  rw [e]
  by_cases h : 2 ≤ l.length ∧ l.length ≤ 4
  · have : decide (l.length ≤ 20) = true := by simp; omega
    simp [h, this]
  · simp [h]
theorem gMade_mem {l : List Sign} (h : gMade l = true) : ∀ x ∈ l, gSign x = true := by
  unfold gMade at h
  rw [Bool.and_eq_true, List.all_eq_true] at h
  exact h.2
theorem join_cons (sep a : Str) (l : List Str) (h : l ≠ []) : Lib.join (a :: l) sep = a ++ sep ++ Lib.join l sep := by
  unfold Lib.join
  cases l with
  | nil => exact absurd rfl h
  | cons b l => simp [List.intercalate, List.intersperse]
theorem join_one (sep a : Str) : Lib.join [a] sep = a := by
  unfold Lib.join
  simp [List.intercalate, List.intersperse]
theorem join_len (sep : Str) (m : Nat) : ∀ (l : List Str), (∀ x ∈ l, x.length ≤ m) → (Lib.join l sep).length ≤ l.length * (m + sep.length)
  | [], _ => by simp [Lib.join, List.intercalate]
  | [a], h => by
    rw [join_one]
    have := h a List.mem_cons_self
    simp
    omega
  | a :: b :: l, h => by
    rw [join_cons sep a (b :: l) (by simp)]
    have h1 := h a List.mem_cons_self
    have h2 := join_len sep m (b :: l) fun x hx => h x (List.mem_cons_of_mem _ hx)
    simp only [List.length_append, List.length_cons] at h2 ⊢
    rw [Nat.add_mul (l.length + 1) 1, Nat.one_mul]
    omega
def vCompound (l : List Sign) : Str × Bool := if gMade l then (Lib.join (l.map tSign) [38], true) else ([], false)
theorem list_small {l : List Sign} (hl : okL okSign l) (F K : Option Bool)
    (e : F = Option.bind (X.l_szSignS 3000000 l 1048576) fun v => bif decide (v < 0) then some true else K) (h : l.length ≤ 1048576 → (∀ x ∈ l, smallS x) → K = some true) : F = some true := by
  rw [e]
  obtain ⟨r, hr, h1⟩ := szSignS_eq (z := 1048576) hl (by omega) (by omega)
  rw [hr, bind_some]
  rcases h1 with h1 | ⟨h1, hs, h2, _⟩
  · have : decide (r < 0) = true := by simpa using h1
    rw [this]
    rfl
  · have : decide (r < 0) = false := by simpa using h2
    rw [this, cond_false]
    exact h h1 hs
/-! ### Minimal pairs -/
def apart (a b : Sign) : List Int := ixs (fun x => !x) [qShape a.Main.Shape b.Main.Shape, qOrient a.Main.Orient b.Main.Orient, qPlace a.Main.Place b.Main.Place, qMove a.Main.Move b.Main.Move, if a.Two = b.Two then qHand a.Other b.Other else false] 0
def vPair (a b : Sign) : Bool × Bool := if gSign a && gSign b then (decide ((apart (nS a) (nS b)).length = 1), true) else (false, false)
theorem len_one (l : List Int) : ((l.length : Int) == 1) = decide (l.length = 1) := by
  rw [Bool.eq_iff_iff]
  simp
  omega
end Go.Proofs.XC
