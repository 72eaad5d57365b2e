/- Plain laws of the plain functions: no program, no memory. By AI agents; no person has read it. -/
import Derived.Test.YtjnablhfhdedfaaGreatDoorPY0
set_option linter.unusedVariables false
set_option linter.unusedSimpArgs false
set_option maxRecDepth 100000
set_option maxHeartbeats 40000000
namespace Go.Proofs.XC
open Go Go.RowKit
/-! ### Tests with the index -/
def allIx {α : Type} (p : Nat → α → Bool) : List α → Nat → Bool
  | [], _ => true
  | x :: l, i => p i x && allIx p l (i + 1)
theorem allIx_iff {α : Type} (p : Nat → α → Bool) : ∀ (l : List α) (j : Nat), allIx p l j = true ↔ ∀ i x, l[i]? = some x → p (j + i) x = true
  | [], j => by simp [allIx]
  | x :: l, j => by
    simp only [allIx, Bool.and_eq_true, allIx_iff p l (j + 1)]
    constructor
    · rintro ⟨h1, h2⟩ i y hy
      cases i with
      | zero => simp at hy; subst hy; exact h1
      | succ i => simp at hy; have := h2 i y hy; rw [show j + (i + 1) = j + 1 + i by omega]; exact this
    · intro h
      refine ⟨h 0 x rfl, fun i y hy => ?_⟩
      have := h (i + 1) y (by simpa using hy)
      rw [show j + (i + 1) = j + 1 + i by omega] at this
      exact this
theorem foldS_test {α ρ : Type} (p : Nat → α → Bool) (a b : ρ) : ∀ (l : List α) (i : Nat), foldS (fun i x (_ : Unit) => if p i x then .inl () else .inr b) (fun _ => a) l i () = if allIx p l i then a else b
  | [], i => rfl
  | x :: l, i => by
    rw [foldS, allIx]
    cases h : p i x
    · simp
    · simp [foldS_test p a b l (i + 1)]
theorem rangeT {α : Type} {body : Int → α → Unit → Option (Unit ⊕ (Bool ⊕ Unit))} {fin : Unit → Option (Bool ⊕ Unit)} (p : Nat → α → Bool) (l : List α) (h1 : ∀ (i : Nat) x, l[i]? = some x → body (i : Int) x () = some (if p i x then .inl () else .inr (.inl false))) (h2 : fin () = some (.inr ())) {F : Unit → Option Bool} :
    orEl (rangeM body fin l 0 ()) (fun r => some r) F = if allIx p l 0 then F () else some false := by
  have h := ranM (body := body) (fin := fin) (fun i x (_ : Unit) => if p i x then Sum.inl () else Sum.inr (Sum.inl false)) (fun _ => Sum.inr ()) (fun _ _ => True) l 0 () trivial (fun i x s hx _ => by have := h1 i x hx; rw [Nat.zero_add]; exact this) (fun _ _ => h2) (fun _ _ _ _ _ _ _ => trivial)
  rw [h, foldS_test]
  cases allIx p l 0 <;> rfl
/-! ### Glosses -/
def isCap (b : UInt8) : Bool := decide (65 ≤ b.toNat) && decide (b.toNat ≤ 90)
def caps : Str := [65, 66, 67, 68, 69, 70, 71, 72, 73, 74, 75, 76, 77, 78, 79, 80, 81, 82, 83, 84, 85, 86, 87, 88, 89, 90]
theorem caps_ix : ((List.range 256).all fun n => decide (Lib.indexByte caps (UInt8.ofNat n) < 0) == !(isCap (UInt8.ofNat n))) = true := by decide +kernel
theorem indexByte_caps (b : UInt8) : decide (Lib.indexByte caps (((b.toNat : Int)).toNat).toUInt8 < 0) = !(isCap b) := by
  have e : (((b.toNat : Int)).toNat).toUInt8 = b := by
    rw [Int.toNat_natCast]
    exact UInt8.ofNat_toNat
  rw [e]
  have h := List.all_eq_true.1 caps_ix b.toNat (List.mem_range.2 b.toNat_lt)
  simp only [UInt8.ofNat_toNat, beq_iff_eq] at h
  exact h
def gGloss (s : Str) : Bool := decide (1 ≤ s.length ∧ s.length ≤ 8) && s.all isCap
theorem hasCaps_eq (s : Str) (hl : s.length ≤ 2000000) : X.i_hasOnly s caps = some (s.all isCap) := by
  unfold X.i_hasOnly
  rw [ranN s (fun _ x (_ : Unit) => if isCap x then Sum.inl () else Sum.inr (Sum.inl false)) (fun _ => Sum.inr ()) rfl (by omega) ?_ (fun _ => rfl), foldS_all]
  · cases s.all isCap <;> rfl
  · intro i x _ hx
    rw [getB_of hx, bind_some]
    unfold X.strings_IndexByte
    rw [bind_some, indexByte_caps x]
    cases isCap x <;> rfl
theorem i_IsGloss_eq (s : Str) : X.i_IsGloss s = some (gGloss s) := by
  unfold X.i_IsGloss X.i_isWordOf gGloss
  simp only [i_within_eq, bind_some]
  by_cases h : 1 ≤ s.length ∧ s.length ≤ 8
  · have h1 : inR (s.length : Int) 1 8 = true := by rw [inR_iff]; omega
    have h2 := hasCaps_eq s (by omega)
    unfold caps at h2
    rw [h1, cond_true, h2]
    simp [h]
  · have h1 : inR (s.length : Int) 1 8 = false := by
      cases hc : inR (s.length : Int) 1 8
      · rfl
      · rw [inR_iff] at hc; omega
    rw [h1]
    simp [h]
theorem s_enGloss_eq {k : Nat} (s : Str) (hl : s.length ≤ 2000000) (hk : 2000010 ≤ k) : X.s_enGloss k s = some (gGloss s) := by
  unfold X.s_enGloss gGloss
  rw [forT (t0 := 0) s (fun i (_ : Unit) => (i : Int)) (fun _ x (_ : Unit) => if isCap x then Sum.inl () else Sum.inr (Sum.inl false)) (fun _ => Sum.inr ()) (fun _ _ => True) () rfl trivial (by omega) ?_ ?_ (fun _ _ _ _ _ _ _ => trivial), foldS_all]
  · rw [s_l1In_eq]
    have e : inR (s.length : Int) 1 8 = decide (1 ≤ s.length ∧ s.length ≤ 8) := by
      rw [Bool.eq_iff_iff, inR_iff, decide_eq_true_iff]
      omega
    rw [e]
    cases s.all isCap
    · simp [orEl]
    · simp [orEl]
  · intro i x _ hx _
    have hb : decide ((i : Int) < ((List.length s : Nat) : Int)) = true := dec_lt hx
    simp only [hb, cond_true, getB_of hx, bind_some]
    have hlt := lt_get hx
    have hw := wr_suc (n := i) (by omega)
    rw [hw]
    have e1 : decide ((x.toNat : Int) < 65) = !(decide (65 ≤ x.toNat)) := by
      rw [Bool.eq_iff_iff]; simp; omega
    have e2 : decide ((x.toNat : Int) > 90) = !(decide (x.toNat ≤ 90)) := by
      rw [Bool.eq_iff_iff]; simp; omega
    rw [e1, e2]
    cases hc : isCap x
    · unfold isCap at hc
      rw [Bool.and_eq_false_iff] at hc
      rcases hc with hc | hc
      · simp [hc]
      · cases decide (65 ≤ x.toNat) <;> simp [hc]
    · unfold isCap at hc
      rw [Bool.and_eq_true] at hc
      simp [hc.1, hc.2]
  · intro _ _
    have hb : decide ((s.length : Int) < ((List.length s : Nat) : Int)) = false := dec_end _
    simp only [hb, cond_false]
/-! ### Entries -/
def gEntry (x : Entry) : Bool := gGloss x.Gloss && (gSign x.Sign && (inR x.Region 0 5 && inR x.Uses 0 99999))
def smallE (x : Entry) : Prop := smallS x.Sign ∧ x.Gloss.length ≤ 2000000
theorem i_isEntry_eq {k : Nat} {x : Entry} (hs : smallE x) (hk : 10 ≤ k) : X.i_isEntry k x = some (gEntry x) := by
  unfold X.i_isEntry gEntry
  simp only [i_IsGloss_eq, i_IsSign_eq hs.1 hk, i_within_eq, bind_some]
  cases gGloss x.Gloss <;> cases gSign x.Sign <;> cases inR x.Region 0 5 <;> cases inR x.Uses 0 99999 <;> rfl
theorem s_enOne_eq {k : Nat} {x : Entry} (hs : smallE x) (hk : 2000010 ≤ k) : X.s_enOne k x = some (gEntry x) := by
  unfold X.s_enOne gEntry X.s_enRegion
  simp only [s_enGloss_eq x.Gloss hs.2 hk, s_siGood_eq hs.1 hk, s_l1In_eq, bind_some]
  cases gGloss x.Gloss <;> cases gSign x.Sign <;> cases inR x.Region 0 5 <;> cases inR x.Uses 0 99999 <;> rfl
def beforeE (a b : Entry) : Bool := if Op.bytesLess a.Gloss b.Gloss then true else if a.Gloss = b.Gloss then decide (a.Region < b.Region) else false
theorem s_enBefore_eq (a b : Entry) : X.s_enBefore a b = some (beforeE a b) := by
  unfold X.s_enBefore beforeE
  simp only [slt_eq, seq_eq]
  by_cases h1 : Op.bytesLess a.Gloss b.Gloss = true
  · simp [h1]
  · have h1' : Op.bytesLess a.Gloss b.Gloss = false := by simpa using h1
    by_cases h2 : a.Gloss = b.Gloss <;> simp [h1', h2]
    rw [h2] at h1'
    simp [h1']
def cmpI (a b : Int) : Int := if a < b then -1 else if b < a then 1 else 0
theorem cmpI_eq (a b : Int) : X.cmp_Compare_int a b = some (cmpI a b) := by
  unfold X.cmp_Compare_int X.cmp_isNaN_int cmpI
  have h : ∀ z : Int, (z != z) = false := fun z => by simp
  simp only [h, bind_some, cond_false]
  by_cases h1 : a < b
  · simp [h1]
  · by_cases h2 : b < a <;> simp [h1, h2]
def or2 (a b : Int) : Int := if a ≠ 0 then a else b
theorem or2_eq (a b : Int) : X.cmp_Or_int [a, b] = some (or2 a b) := by
  unfold X.cmp_Or_int or2
  simp only [rangeM_cons, rangeM_nil, bne, beq_dec]
  by_cases h1 : a = 0 <;> by_cases h2 : b = 0 <;> simp [h1, h2, orEl, bind_some]
def cmpE (a b : Entry) : Int := or2 (cmpB a.Gloss b.Gloss) (cmpI a.Region b.Region)
theorem i_compareEntries_eq (a b : Entry) : X.i_compareEntries a b = some (cmpE a b) := by
  unfold X.i_compareEntries X.strings_Compare cmpE
  simp only [cmpI_eq, bind_some, or2_eq]
  rfl
theorem cmpE_iff (a b : Entry) : decide (cmpE a b ≥ 0) = !(beforeE a b) := by
  unfold cmpE beforeE or2
  rw [← cmpB_eq a.Gloss b.Gloss]
  by_cases h1 : Op.bytesLess a.Gloss b.Gloss = true
  · simp [h1]
  · have h1' : Op.bytesLess a.Gloss b.Gloss = false := by simpa using h1
    by_cases h2 : a.Gloss = b.Gloss
    · rw [h2]
      simp [bytesLess_irrefl, cmpI]
      by_cases h3 : a.Region < b.Region
      · simp [h3]
      · by_cases h4 : b.Region < a.Region <;> simp [h3, h4] <;> omega
    · simp [h1', h2]
def pE (l : List Entry) (i : Nat) (x : Entry) : Bool := gEntry x && (decide (i = 0) || match l[i - 1]? with | some y => beforeE y x | none => true)
def gEntries (l : List Entry) : Bool := allIx (pE l) l 0 && decide (l.length ≤ 16)
theorem entries_step {l : List Entry} {i : Nat} {x : Entry} (hx : l[i]? = some x) (hlen : l.length ≤ 4611686018427387904) (F : Entry → Option Bool) (hF : ∀ y, F y = some (beforeE y x)) (R : Bool → Option (Unit ⊕ (Bool ⊕ Unit))) (r1 : R true = some (.inl ())) (r2 : R false = some (.inr (.inl false))) :
    (bif !(gEntry x) then some (.inr (.inl false)) else bif decide ((i : Int) > 0) then Option.bind (getI l (wr ((i : Int) - 1))) fun y => Option.bind (F y) R else some (.inl ())) = some (if pE l i x then .inl () else .inr (.inl false)) := by
  unfold pE
  cases gEntry x
  · simp
  · simp only [Bool.not_true, cond_false, Bool.true_and]
    cases i with
    | zero => simp
    | succ i =>
      have hlt := lt_get hx
      have e : wr (((i + 1 : Nat) : Int) - 1) = ((i : Nat) : Int) := by rw [wr_of (by omega) (by omega)]; omega
      have hy : l[i]? = some l[i] := List.getElem?_eq_getElem (by omega)
      rw [e, getI_of hy]
      have hd : decide (((i + 1 : Nat) : Int) > 0) = true := by simp
      rw [hd, cond_true, bind_some, hF, bind_some]
      have hz : decide (i + 1 = 0) = false := by simp
      rw [hz, Bool.false_or, Nat.add_sub_cancel, hy]
      simp only
      by_cases hb : beforeE l[i] x = true
      · rw [if_pos hb, hb, r1]
      · rw [if_neg hb, (by simpa using hb : beforeE l[i] x = false), r2]
theorem i_AreEntries_eq {k : Nat} {l : List Entry} (hs : ∀ x ∈ l, smallE x) (hlen : l.length ≤ 4611686018427387904) (hk : 10 ≤ k) : X.i_AreEntries k l = some (gEntries l) := by
  unfold X.i_AreEntries gEntries
  rw [rangeT (pE l) l (fun i x hx => ?_) rfl]
  · cases allIx (pE l) l 0
    · rfl
    · simp
      omega
  · rw [i_isEntry_eq (hs x (List.mem_of_getElem? hx)) hk, bind_some]
    refine (entries_step hx hlen (fun y => some (beforeE y x)) (fun _ => rfl) (fun b => bif !b then some (.inr (.inl false)) else some (.inl ())) rfl rfl).symm.trans ?_ |>.symm
    simp only [i_compareEntries_eq, bind_some, cmpE_iff]
theorem s_enGood_eq {k : Nat} {l : List Entry} (hs : ∀ x ∈ l, smallE x) (hlen : l.length ≤ 4611686018427387904) (hk : 2000010 ≤ k) : X.s_enGood k l = some (gEntries l) := by
  unfold X.s_enGood gEntries
  rw [rangeT (pE l) l (fun i x hx => ?_) rfl]
  · cases allIx (pE l) l 0
    · rfl
    · simp
      omega
  · rw [s_enOne_eq (hs x (List.mem_of_getElem? hx)) hk, bind_some]
    refine (entries_step hx hlen (fun y => some (beforeE y x)) (fun _ => rfl) (fun b => bif !b then some (.inr (.inl false)) else some (.inl ())) rfl rfl).symm.trans ?_ |>.symm
    simp only [s_enBefore_eq, bind_some]
end Go.Proofs.XC
