/- Plain laws of the plain functions: no program, no memory. By AI agents; no person has read it. -/
import Derived.Test.YthmgaaommjienaaGreatDoorPY2
set_option linter.unusedVariables false
set_option linter.unusedSimpArgs false
set_option maxRecDepth 100000
set_option maxHeartbeats 40000000
namespace Go.Proofs.XC
open Go Go.RowKit
/-! ### Uses -/
/-- The places of the elements for which p holds. -/
def ixs {α : Type} (p : α → Bool) : List α → Nat → List Int
  | [], _ => []
  | x :: l, j => if p x then (j : Int) :: ixs p l (j + 1) else ixs p l (j + 1)
theorem ixs_len {α : Type} (p : α → Bool) : ∀ (l : List α) (j : Nat), (ixs p l j).length ≤ l.length
  | [], j => by simp [ixs]
  | x :: l, j => by
    have := ixs_len p l (j + 1)
    unfold ixs
    split <;> simp <;> omega
theorem those_gen {α : Type} (p : α → Bool) {body : Int → α → List Int → Option (List Int ⊕ List Int)} {fin : List Int → Option (List Int)} (h2 : ∀ s, fin s = some s) : ∀ (l : List α) (j : Nat) (acc : List Int), acc.length + l.length ≤ 1000000000000 →
    (∀ (i : Nat) x s, l[i]? = some x → body ((j + i : Nat) : Int) x s = if p x then Option.bind (appG (eI .i64) s [((j + i : Nat) : Int)]) (fun y => some (.inl y)) else some (.inl s)) → rangeM body fin l j acc = some (acc ++ ixs p l j)
  | [], j, acc, _, _ => by rw [rangeM_nil, h2]; simp [ixs]
  | x :: l, j, acc, hl, hb => by
    have h0 := hb 0 x acc rfl
    have hb' : ∀ (i : Nat) y s, l[i]? = some y → body ((j + 1 + i : Nat) : Int) y s = if p y then Option.bind (appG (eI .i64) s [((j + 1 + i : Nat) : Int)]) (fun y => some (.inl y)) else some (.inl s) := fun i y s hy => by
      have := hb (i + 1) y s (by simpa using hy)
      rw [show j + (i + 1) = j + 1 + i by omega] at this
      exact this
    simp only [Nat.add_zero] at h0
    rw [rangeM_cons, h0]
    by_cases h : p x = true
    · have ha : appG (eI .i64) acc [(j : Int)] = some (acc ++ [(j : Int)]) := by
        unfold appG
        rw [if_pos]
        show (acc.length + 1) * 8 ≤ _
        simp at hl
        omega
      simp only [h, if_true, ha, bind_some]
      rw [those_gen p h2 l (j + 1) (acc ++ [(j : Int)]) (by simp at hl ⊢; omega) hb']
      simp [ixs, h]
    · simp only [h, if_false, bind_some, Bool.false_eq_true]
      rw [those_gen p h2 l (j + 1) acc (by simp at hl ⊢; omega) hb']
      simp [ixs, h]
def sumU (g : Str) : List Entry → Int → Int
  | [], n => n
  | x :: l, n => sumU g l (if x.Gloss = g then wr (n + x.Uses) else n)
theorem s_enUses_eq (l : List Entry) (g : Str) : X.s_enUses l g = some (sumU g l 0) := by
  unfold X.s_enUses
  have key : ∀ (l : List Entry) (j : Nat) (n : Int), rangeM (fun (j4 : Int) (x5 : Entry) n1 => (bif (seq x5.Gloss g) then some (.inl (wr (n1 + x5.Uses))) else some (.inl n1))) (fun n1 => some n1) l j n = some (sumU g l n) := by
    intro l
    induction l with
    | nil => intro j n; rfl
    | cons x l ih =>
      intro j n
      rw [rangeM_cons, seq_eq]
      by_cases h : x.Gloss = g
      · simp only [h, decide_true, cond_true, bind_some, sumU, if_true]
        exact ih _ _
      · simp only [h, decide_false, cond_false, bind_some, sumU, if_false]
        exact ih _ _
  rw [key]
  rfl
theorem i_variants_eq (l : List Entry) (g : Str) (hl : l.length ≤ 1048576) : X.i_variants l g = some (ixs (fun x => decide (x.Gloss = g)) l 0) := by
  unfold X.i_variants X.i_those_i_Entry
  rw [those_gen (fun x => decide (x.Gloss = g)) (fun _ => rfl) l 0 [] (by simp; omega) (fun i x s hx => ?_)]
  · rfl
  · unfold X.i_variants_1
    simp only [seq_eq, bind_some]
    by_cases h : x.Gloss = g <;> simp [h]
theorem i_usesOf_eq (l : List Entry) (g : Str) (hl : l.length ≤ 1048576) : X.i_usesOf l g = some (sumU g l 0) := by
  unfold X.i_usesOf
  rw [i_variants_eq l g hl, bind_some]
  have key : ∀ (r : List Entry) (i j : Nat) (n : Int), l.drop i = r → rangeM (fun (j4 : Int) (x5 : Int) n1 => (Option.bind (getI l x5) fun y5_3 => some (.inl (wr (n1 + y5_3.Uses))))) (fun n1 => some n1) (ixs (fun x => decide (x.Gloss = g)) r i) j n = some (sumU g r n) := by
    intro r
    induction r with
    | nil => intro i j n _; rfl
    | cons x r ih =>
      intro i j n hd
      have hx : l[i]? = some x := by
        have := congrArg (fun l => l[0]?) hd
        simpa using this
      have hd' : l.drop (i + 1) = r := by rw [← List.drop_drop (i := 1) (j := i), hd]; rfl
      unfold ixs sumU
      by_cases h : x.Gloss = g
      · simp only [h, decide_true, if_true]
        rw [rangeM_cons, getI_of hx, bind_some, bind_some]
        exact ih (i + 1) (j + 1) _ hd'
      · simp only [h, decide_false, Bool.false_eq_true, if_false]
        exact ih (i + 1) j _ hd'
  rw [key l 0 0 0 rfl]
  rfl
def vUses (l : List Entry) (g : Str) : Int × Bool := if gEntries l then (if gGloss g then (sumU g l 0, true) else (0, false)) else (0, false)
theorem i_UsesOf_eq {k : Nat} {l : List Entry} {g : Str} (hs : ∀ x ∈ l, smallE x) (hl : l.length ≤ 1048576) (hk : 10 ≤ k) : X.i_UsesOf k l g = some (vUses l g) := by
  unfold X.i_UsesOf vUses
  rw [i_AreEntries_eq hs (by omega) hk, bind_some, i_IsGloss_eq, bind_some, i_usesOf_eq l g hl]
  cases gEntries l <;> cases gGloss g <;> rfl
theorem s_UsesOf_eq {k : Nat} {l : List Entry} {g : Str} (hs : ∀ x ∈ l, smallE x) (hl : l.length ≤ 1048576) (hg : g.length ≤ 2000000) (hk : 2000010 ≤ k) : X.s_UsesOf k l g = some (vUses l g) := by
  unfold X.s_UsesOf vUses
  rw [s_enGood_eq hs (by omega) hk, bind_some, s_enGloss_eq g hg hk, bind_some, s_enUses_eq l g]
  cases gEntries l <;> cases gGloss g <;> rfl
theorem Pure.FnExactUsesOf (l : List Entry) (hl : okL okEntry l) (g : Str) (hg : okS g) : X.l_FnExactUsesOf 3000000 l g = some true := by
  unfold X.l_FnExactUsesOf
  by_cases hz : g.length > 1048576
  · have : decide ((g.length : Int) > 1048576) = true := by simp; omega
    rw [this]
    rfl
  have : decide ((g.length : Int) > 1048576) = false := by simp; omega
  rw [this, cond_false]
  obtain ⟨r, hr, h⟩ := szEntryS_eq (z := 1048576) hl (by omega) (by omega)
  rw [hr, bind_some]
  rcases h with h | ⟨h1, hs, h, _⟩
  · have : decide (r < 0) = true := by simpa using h
    rw [this]
    rfl
  · have : decide (r < 0) = false := by simpa using h
    rw [this, cond_false]
    simp only [toEntryS_eq h1, bind_some, i_UsesOf_eq hs h1 (show 10 ≤ 3000000 by omega), s_UsesOf_eq hs h1 (show g.length ≤ 2000000 by omega) (show 2000010 ≤ 3000000 by omega), eqEntryS_eq h1]
    simp
/-! ### The entry for a region -/
theorem bytesLess_trans : ∀ {a b c : Str}, Op.bytesLess a b = true → Op.bytesLess b c = true → Op.bytesLess a c = true
  | _, _, [], _, h => by simp [Op.bytesLess] at h
  | _, [], _ :: _, h, _ => by simp [Op.bytesLess] at h
  | [], _ :: _, _ :: _, _, _ => rfl
  | x :: a, y :: b, z :: c, h1, h2 => by
    simp only [Op.bytesLess, Bool.or_eq_true, Bool.and_eq_true, decide_eq_true_iff, beq_iff_eq] at h1 h2 ⊢
    rcases h1 with h1 | ⟨rfl, h1⟩
    · rcases h2 with h2 | ⟨rfl, h2⟩
      · exact .inl (UInt8.lt_trans h1 h2)
      · exact .inl h1
    · rcases h2 with h2 | ⟨rfl, h2⟩
      · exact .inl h2
      · exact .inr ⟨rfl, bytesLess_trans h1 h2⟩
theorem beforeE_trans {a b c : Entry} (h1 : beforeE a b = true) (h2 : beforeE b c = true) : beforeE a c = true := by
  unfold beforeE at *
  by_cases g1 : Op.bytesLess a.Gloss b.Gloss = true
  · by_cases g2 : Op.bytesLess b.Gloss c.Gloss = true
    · simp [bytesLess_trans g1 g2]
    · by_cases g3 : b.Gloss = c.Gloss
      · rw [← g3]; simp [g1]
      · simp [g2, g3] at h2
  · by_cases g3 : a.Gloss = b.Gloss
    · by_cases g2 : Op.bytesLess b.Gloss c.Gloss = true
      · rw [g3]; simp [g2]
      · by_cases g4 : b.Gloss = c.Gloss
        · simp [g1, g3, g2, g4, bytesLess_irrefl] at h1 h2 ⊢
          first | done | omega
        · simp [g2, g4] at h2
    · simp [g1, g3] at h1
theorem beforeE_irrefl (a : Entry) : beforeE a a = false := by
  unfold beforeE
  simp [bytesLess_irrefl]
theorem entries_sorted {l : List Entry} (h : gEntries l = true) : l.Pairwise fun a b => beforeE a b = true := by
  unfold gEntries at h
  rw [Bool.and_eq_true, allIx_iff] at h
  have key : ∀ (d i : Nat) (x y : Entry), l[i]? = some x → l[i + d + 1]? = some y → beforeE x y = true := by
    intro d
    induction d with
    | zero =>
      intro i x y hx hy
      have := h.1 (i + 1) y hy
      unfold pE at this
      simp only [Nat.zero_add, Bool.and_eq_true, Bool.or_eq_true, Nat.add_sub_cancel, hx] at this
      simpa using this.2
    | succ d ih =>
      intro i x y hx hy
      have hlt := lt_get hy
      have hz : l[i + d + 1]? = some l[i + d + 1] := List.getElem?_eq_getElem (by omega)
      have h1 := ih i x _ hx hz
      have h2 := h.1 (i + (d + 1) + 1) y hy
      unfold pE at h2
      simp only [Nat.zero_add, Bool.and_eq_true, Bool.or_eq_true, Nat.add_sub_cancel] at h2
      rw [show i + (d + 1) = i + d + 1 by omega, hz] at h2
      exact beforeE_trans h1 (by simpa using h2.2)
  rw [List.pairwise_iff_getElem]
  intro i j hi hj hij
  have := key (j - i - 1) i l[i] l[j] (List.getElem?_eq_getElem hi) (by rw [show i + (j - i - 1) + 1 = j by omega]; exact List.getElem?_eq_getElem hj)
  exact this
/-- The first place where p holds, or else n. -/
def fst_ {α : Type} (p : α → Bool) : List α → Nat → Int → Int
  | [], _, n => n
  | x :: l, j, n => if p x then (j : Int) else fst_ p l (j + 1) n
theorem fst_pos {α : Type} (p : α → Bool) : ∀ (l : List α) (j : Nat), fst_ p l j (-1) < 0 ↔ l.any p = false
  | [], j => by simp [fst_]
  | x :: l, j => by
    unfold fst_
    by_cases h : p x = true
    · simp [h]
    · simp [h, fst_pos p l (j + 1)]
theorem indexFunc_eq (l : List Entry) (F : Entry → Option Bool) (p : Entry → Bool) (hF : ∀ x, F x = some (p x)) : X.slices_IndexFunc_i_Entry_i_Entry l F = some (fst_ p l 0 (-1)) := by
  unfold X.slices_IndexFunc_i_Entry_i_Entry
  have key : ∀ (l : List Entry) (j : Nat), orEl (rangeM (fun (j2 : Int) (x3 : Entry) (_ : Unit) => (Option.bind (F x3) fun v4_5 => (bif v4_5 then some (.inr (.inl (j2 : Int))) else some (.inl ())))) (fun _ => some (.inr ())) l j ()) (fun r => some r) (fun (_ : Unit) => some (-1)) = some (fst_ p l j (-1)) := by
    intro l
    induction l with
    | nil => intro j; rfl
    | cons x l ih =>
      intro j
      rw [rangeM_cons, hF, bind_some]
      unfold fst_
      cases h : p x
      · simp only [cond_false, bind_some, Bool.false_eq_true, if_false]
        exact ih (j + 1)
      · rfl
  exact key l 0
def pG (g : Str) (r : Int) (x : Entry) : Bool := decide (x.Gloss = g) && decide (x.Region = r)
def vFor (l : List Entry) (g : Str) (r : Int) : Int := if l.any (pG g r) then fst_ (pG g r) l 0 (-1) else fst_ (pG g 0) l 0 (-1)
theorem i_entryFor_eq (l : List Entry) (g : Str) (r : Int) : X.i_entryFor l g r = some (vFor l g r) := by
  unfold X.i_entryFor vFor
  have hF : ∀ r x, X.i_entryFor_1 g r x = some (pG g r x) := fun r x => by
    unfold X.i_entryFor_1 pG
    rw [seq_eq, beq_dec]
    by_cases h : x.Gloss = g <;> simp [h]
  simp only [rangeM_cons, rangeM_nil, indexFunc_eq l _ _ (hF r), indexFunc_eq l _ _ (hF 0), bind_some]
  have h1 := fst_pos (pG g r) l 0
  have h0 := fst_pos (pG g 0) l 0
  by_cases c1 : fst_ (pG g r) l 0 (-1) < 0
  · have e : decide (fst_ (pG g r) l 0 (-1) ≥ 0) = false := by simp; omega
    rw [e, h1.1 c1]
    by_cases c0 : fst_ (pG g 0) l 0 (-1) < 0
    · have e : decide (fst_ (pG g 0) l 0 (-1) ≥ 0) = false := by simp; omega
      rw [e]
      have hm : ∀ (l : List Entry) j, l.any (pG g 0) = false → fst_ (pG g 0) l j (-1) = -1 := by
        intro l
        induction l with
        | nil => intro j _; rfl
        | cons x l ih =>
          intro j h
          simp only [List.any_cons, Bool.or_eq_false_iff] at h
          unfold fst_
          rw [h.1]
          simpa using ih (j + 1) h.2
      rw [hm l 0 (h0.1 c0)]
      simp [orEl, bind_some]
    · have e : decide (fst_ (pG g 0) l 0 (-1) ≥ 0) = true := by simp; omega
      rw [e]
      simp [orEl, bind_some]
  · have e : decide (fst_ (pG g r) l 0 (-1) ≥ 0) = true := by simp; omega
    rw [e]
    have : l.any (pG g r) = true := by
      cases h : l.any (pG g r)
      · exact absurd (h1.2 h) c1
      · rfl
    rw [this]
    simp [orEl, bind_some]
theorem s_enFor_eq (l : List Entry) (g : Str) (r : Int) (hp : l.Pairwise fun a b => beforeE a b = true) : X.s_enFor l g r = some (vFor l g r) := by
  unfold X.s_enFor
  -- what is told once the region's own has been met, and before
  have late : ∀ (l : List Entry) (j : Nat) (n : Int), 0 ≤ n → l.any (pG g r) = false → rangeM (fun (j4 : Int) (x5 : Entry) n1 => (bif (seq x5.Gloss g) then (bif (x5.Region == r) then some (.inl (j4 : Int)) else (bif (x5.Region == 0) then (bif decide (n1 < 0) then some (.inl (j4 : Int)) else some (.inl n1)) else some (.inl n1))) else some (.inl n1))) (fun n1 => some n1) l j n = some n := by
    intro l
    induction l with
    | nil => intro j n _ _; rfl
    | cons x l ih =>
      intro j n hn h
      simp only [List.any_cons, Bool.or_eq_false_iff] at h
      rw [rangeM_cons, seq_eq, beq_dec, beq_dec]
      have hd : decide (n < 0) = false := by simp; omega
      have hx : pG g r x = false := h.1
      unfold pG at hx
      by_cases h1 : x.Gloss = g
      · have h2 : ¬ x.Region = r := by intro e; simp [h1, e] at hx
        by_cases h3 : x.Region = 0
        · have h4 : ¬ (0 : Int) = r := fun e => h2 (h3.trans e)
          simp only [h1, h3, h4, hd, decide_true, decide_false, cond_true, cond_false, bind_some]
          exact ih _ _ hn h.2
        · simp only [h1, h2, h3, hd, decide_true, decide_false, cond_true, cond_false, bind_some]
          exact ih _ _ hn h.2
      · simp only [h1, decide_false, cond_false, bind_some]
        exact ih _ _ hn h.2
  have main : ∀ (l : List Entry) (j : Nat) (n : Int), (n = -1 ∨ 0 ≤ n) → (l.Pairwise fun a b => beforeE a b = true) → rangeM (fun (j4 : Int) (x5 : Entry) n1 => (bif (seq x5.Gloss g) then (bif (x5.Region == r) then some (.inl (j4 : Int)) else (bif (x5.Region == 0) then (bif decide (n1 < 0) then some (.inl (j4 : Int)) else some (.inl n1)) else some (.inl n1))) else some (.inl n1))) (fun n1 => some n1) l j n = some (if l.any (pG g r) then fst_ (pG g r) l j (-1) else if n < 0 then fst_ (pG g 0) l j (-1) else n) := by
    intro l
    induction l with
    | nil =>
      intro j n hn _
      rw [rangeM_nil]
      rcases hn with rfl | hn
      · rfl
      · have : ¬ n < 0 := by omega
        simp [this]
    | cons x l ih =>
      intro j n hn hp
      rw [List.pairwise_cons] at hp
      rw [rangeM_cons, seq_eq, beq_dec, beq_dec]
      by_cases h1 : x.Gloss = g
      · by_cases h2 : x.Region = r
        · have hx : pG g r x = true := by unfold pG; simp [h1, h2]
          have hno : l.any (pG g r) = false := by
            rw [List.any_eq_false]
            intro y hy hpy
            have hb := hp.1 y hy
            unfold pG at hpy
            simp only [Bool.and_eq_true, decide_eq_true_iff] at hpy
            unfold beforeE at hb
            rw [h1, h2, hpy.1, hpy.2] at hb
            simp [bytesLess_irrefl] at hb
          simp only [h1, h2, decide_true, cond_true, bind_some]
          refine (late l (j + 1) (j : Int) (by omega) hno).trans ?_
          simp [hx, fst_]
        · have hx : pG g r x = false := by unfold pG; simp [h2]
          by_cases h3 : x.Region = 0
          · have h4 : ¬ (0 : Int) = r := fun e => h2 (h3.trans e)
            have hz : pG g 0 x = true := by unfold pG; simp [h1, h3]
            by_cases hneg : n < 0
            · simp only [h1, h3, h4, hneg, decide_true, decide_false, cond_true, cond_false, bind_some]
              refine (ih (j + 1) (j : Int) (.inr (by omega)) hp.2).trans ?_
              have : ¬ (j : Int) < 0 := by omega
              simp [hx, hz, fst_, this]
            · simp only [h1, h3, h4, hneg, decide_true, decide_false, cond_true, cond_false, bind_some]
              refine (ih (j + 1) n hn hp.2).trans ?_
              simp [hx, fst_, hneg]
          · have hz : pG g 0 x = false := by unfold pG; simp [h3]
            simp only [h1, h2, h3, decide_true, decide_false, cond_true, cond_false, bind_some]
            refine (ih (j + 1) n hn hp.2).trans ?_
            simp [hx, hz, fst_]
      · have hx : pG g r x = false := by unfold pG; simp [h1]
        have hz : pG g 0 x = false := by unfold pG; simp [h1]
        simp only [h1, decide_false, cond_false, bind_some]
        refine (ih (j + 1) n hn hp.2).trans ?_
        simp [hx, hz, fst_]
  rw [main l 0 (-1) (.inl rfl) hp]
  rfl
def vEntry (l : List Entry) (g : Str) (r : Int) : Int × Bool := if gEntries l && (gGloss g && inR r 0 5) then (if vFor l g r < 0 then (0, false) else (vFor l g r, true)) else (0, false)
theorem i_EntryFor_eq {k : Nat} {l : List Entry} {g : Str} {r : Int} (hs : ∀ x ∈ l, smallE x) (hl : l.length ≤ 1048576) (hk : 10 ≤ k) : X.i_EntryFor k l g r = some (vEntry l g r) := by
  unfold X.i_EntryFor vEntry
  rw [i_AreEntries_eq hs (by omega) hk, bind_some, i_IsGloss_eq, bind_some, i_within_eq, bind_some, i_entryFor_eq, bind_some]
  by_cases h : vFor l g r < 0 <;> cases gEntries l <;> cases gGloss g <;> cases inR r 0 5 <;> simp [h]
theorem s_EntryFor_eq {k : Nat} {l : List Entry} {g : Str} {r : Int} (hs : ∀ x ∈ l, smallE x) (hl : l.length ≤ 1048576) (hg : g.length ≤ 2000000) (hk : 2000010 ≤ k) : X.s_EntryFor k l g r = some (vEntry l g r) := by
  unfold X.s_EntryFor vEntry X.s_enRegion
  rw [s_enGood_eq hs (by omega) hk, bind_some, s_enGloss_eq g hg hk, bind_some, s_l1In_eq, bind_some, bind_some]
  cases h : gEntries l
  · rfl
  · rw [s_enFor_eq l g r (entries_sorted h), bind_some]
    by_cases h : vFor l g r < 0 <;> cases gGloss g <;> cases inR r 0 5 <;> simp [h]
theorem Pure.FnExactEntryFor (l : List Entry) (hl : okL okEntry l) (g : Str) (hg : okS g) (r : Int) (_ : okI r) : X.l_FnExactEntryFor 3000000 l g r = some true := by
  unfold X.l_FnExactEntryFor
  by_cases hz : g.length > 1048576
  · have : decide ((g.length : Int) > 1048576) = true := by simp; omega
    rw [this]
    rfl
  have : decide ((g.length : Int) > 1048576) = false := by simp; omega
  rw [this, cond_false]
  obtain ⟨r, hr, h⟩ := szEntryS_eq (z := 1048576) hl (by omega) (by omega)
  rw [hr, bind_some]
  rcases h with h | ⟨h1, hs, h, _⟩
  · have : decide (r < 0) = true := by simpa using h
    rw [this]
    rfl
  · have : decide (r < 0) = false := by simpa using h
    rw [this, cond_false]
    simp only [toEntryS_eq h1, bind_some, i_EntryFor_eq hs h1 (show 10 ≤ 3000000 by omega), s_EntryFor_eq hs h1 (show g.length ≤ 2000000 by omega) (show 2000010 ≤ 3000000 by omega), eqEntryS_eq h1]
    simp
end Go.Proofs.XC
