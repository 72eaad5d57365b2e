/- Plain laws of the plain functions: no program, no memory. By AI agents; no person has read it. -/
import Derived.Test.YtjjhlccjfdcfcaaGreatDoorPX
set_option linter.unusedVariables false
set_option linter.unusedSimpArgs false
set_option maxRecDepth 100000
set_option maxHeartbeats 40000000
namespace Go.Proofs.XC
open Go Go.RowKit
/-! ### Loops over an index -/
theorem wr_suc {n : Nat} (h : n ≤ 4611686018427387904) : wr ((n : Int) + 1) = ((n + 1 : Nat) : Int) := by
  rw [wr_of (by omega) (by omega)]
  omega
theorem getI_of {α : Type} {l : List α} {i : Nat} {x : α} (h : l[i]? = some x) : getI l (i : Int) = some x := by
  unfold getI
  rw [if_pos (by omega)]
  simpa using h
theorem lt_get {α : Type} {l : List α} {i : Nat} {x : α} (h : l[i]? = some x) : i < l.length := (List.getElem?_eq_some_iff.1 h).1
end Go.Proofs.XC
namespace Go.Proofs.XC
open Go Go.RowKit
/-! ### Tests with the index -/
def allIx {α : Type} (p : Nat → α → Bool) : List α → Nat → Bool
  | [], _ => true
  | x :: l, i => p i x && allIx p l (i + 1)
theorem allIx_iff {α : Type} (p : Nat → α → Bool) : ∀ (l : List α) (j : Nat), allIx p l j = true ↔ ∀ i x, l[i]? = some x → p (j + i) x = true
  | [], j => by simp [allIx]
  | x :: l, j => by
    simp only [allIx, Bool.and_eq_true, allIx_iff p l (j + 1)]
    constructor
    · rintro ⟨h1, h2⟩ i y hy
      cases i with
      | zero => simp at hy; subst hy; exact h1
      | succ i => simp at hy; have := h2 i y hy; rw [show j + (i + 1) = j + 1 + i by omega]; exact this
    · intro h
      refine ⟨h 0 x rfl, fun i y hy => ?_⟩
      have := h (i + 1) y (by simpa using hy)
      rw [show j + (i + 1) = j + 1 + i by omega] at this
      exact this
theorem foldS_test {α ρ : Type} (p : Nat → α → Bool) (a b : ρ) : ∀ (l : List α) (i : Nat), foldS (fun i x (_ : Unit) => if p i x then .inl () else .inr b) (fun _ => a) l i () = if allIx p l i then a else b
  | [], i => rfl
  | x :: l, i => by
    rw [foldS, allIx]
    cases h : p i x
    · simp
    · simp [foldS_test p a b l (i + 1)]
/-! ### Glosses -/
/-! ### Entries -/
end Go.Proofs.XC
namespace Go.Proofs.XC
open Go Go.RowKit
/-! ### Lists of signs -/
/-- All of them. -/
theorem all_range {α : Type} {F : α → Option Bool} (p : α → Bool) (l : List α) (hF : ∀ x ∈ l, F x = some (p x)) {G : Unit → Option Bool} :
    orEl (rangeM (fun (j2 : Int) (x3 : α) (_ : Unit) => (Option.bind (F x3) fun v => (bif (!v) then some (.inr (Sum.inl false)) else some (.inl ())))) (fun _ => some (Sum.inr ())) l 0 ()) (fun r => some r) G = if l.all p then G () else some false := by
  have key : ∀ (l : List α) (j : Nat), (∀ x ∈ l, F x = some (p x)) → rangeM (fun (j2 : Int) (x3 : α) (_ : Unit) => (Option.bind (F x3) fun v => (bif (!v) then some (.inr (Sum.inl false)) else some (.inl ())))) (fun _ => some (Sum.inr ())) l j () = some (if l.all p then .inr () else .inl false) := by
    intro l
    induction l with
    | nil => intro j _; rfl
    | cons x l ih =>
      intro j hF
      rw [rangeM_cons, hF x List.mem_cons_self, bind_some]
      cases h : p x
      · simp [h, bind_some]
      · simp only [Bool.not_true, cond_false, bind_some, List.all_cons, h, Bool.true_and]
        exact ih (j + 1) fun y hy => hF y (List.mem_cons_of_mem _ hy)
  rw [key l 0 hF]
  cases l.all p <;> rfl
theorem s_paList_eq {k : Nat} {l : List Sign} (hs : ∀ x ∈ l, smallS x) (hk : 2000010 ≤ k) : X.s_paList k l = some (l.all gSign && decide (l.length ≤ 20)) := by
  unfold X.s_paList
  rw [all_range gSign l fun x hx => s_siGood_eq (hs x hx) hk]
  cases l.all gSign
  · rfl
  · simp
    omega
theorem contains_eq (l : List Sign) (F : Sign → Option Bool) (p : Sign → Bool) (hF : ∀ x ∈ l, F x = some (p x)) : X.slices_ContainsFunc_i_Sign_i_Sign l F = some (l.any p) := by
  unfold X.slices_ContainsFunc_i_Sign_i_Sign X.slices_IndexFunc_i_Sign_i_Sign
  exact anyF_eq p F l hF
theorem i_allOf_eq (l : List Sign) (F : Sign → Option Bool) (p : Sign → Bool) (hF : ∀ x ∈ l, F x = some (p x)) : X.i_allOf_i_Sign l F = some (l.all p) := by
  unfold X.i_allOf_i_Sign
  rw [contains_eq l _ (fun x => !(p x)) fun x hx => by unfold X.i_allOf_i_Sign_1; rw [hF x hx]; rfl]
  simp only [bind_some]
  congr 1
  rw [List.any_eq_not_all_not]
  simp
theorem i_areSigns_eq {k : Nat} {l : List Sign} {n : Int} (hs : ∀ x ∈ l, smallS x) (hk : 10 ≤ k) : X.i_areSigns k l n = some (decide ((l.length : Int) ≤ n) && l.all gSign) := by
  unfold X.i_areSigns
  rw [i_allOf_eq l _ gSign fun x hx => i_IsSign_eq (hs x hx) hk]
  cases decide ((l.length : Int) ≤ n) <;> rfl
/-! ### Texts of compounds -/
def tSign (s : Sign) : Str := if s.Two then tHand s.Main ++ [43] ++ tHand s.Other else tHand s.Main
theorem tSign_len {s : Sign} (g : gSign s = true) : (tSign s).length ≤ 61 := by
  have h1 := tHand_len (gSign_main g)
  unfold tSign
  split
  · rename_i h
    have h2 := tHand_len (gSign_other g h).1
    simp
    omega
  · omega
theorem i_Sign_text_eq {s : Sign} (g : gSign s = true) : X.i_Sign_text s = some (tSign s) := by
  have h1 := tHand_len (gSign_main g)
  unfold X.i_Sign_text tSign
  rw [i_Hand_text_eq (gSign_main g)]
  cases h : s.Two
  · rfl
  · have h2 := tHand_len (gSign_other g h).1
    simp only [Bool.not_true, cond_false, bind_some, i_Hand_text_eq (gSign_other g h).1, if_true]
    rw [catS_of (by simp; omega), bind_some, catS_of (by simp; omega), bind_some]
theorem s_paText_eq {k : Nat} {s : Sign} (g : gSign s = true) (hk : 1 ≤ k) : X.s_paText k s = some (tSign s) := by
  obtain ⟨q, rfl⟩ : ∃ q, k = q + 1 := ⟨k - 1, by omega⟩
  have h1 := tHand_len (gSign_main g)
  unfold X.s_paText tSign
  rw [s_siText_eq q (gSign_main g)]
  cases h : s.Two
  · rfl
  · have h2 := tHand_len (gSign_other g h).1
    simp only [cond_true, bind_some, s_siText_eq q (gSign_other g h).1, if_true]
    rw [catS_of (by simp; omega), bind_some, catS_of (by simp; omega), bind_some]
def gMade (l : List Sign) : Bool := decide (2 ≤ l.length ∧ l.length ≤ 4) && l.all gSign
theorem i_isMade_eq {k : Nat} {l : List Sign} (hs : ∀ x ∈ l, smallS x) (hk : 10 ≤ k) : X.i_isMade k l = some (gMade l) := by
  unfold X.i_isMade gMade
  rw [i_areSigns_eq hs hk, bind_some]
  by_cases h1 : 2 ≤ l.length
  · by_cases h2 : l.length ≤ 4
    · have e1 : decide ((l.length : Int) ≥ 2) = true := by simp; omega
      have e2 : decide ((l.length : Int) ≤ 4) = true := by simp; omega
      rw [e1, e2]
      simp [h1, h2]
    · have e1 : decide ((l.length : Int) ≥ 2) = true := by simp; omega
      have e2 : decide ((l.length : Int) ≤ 4) = false := by simp; omega
      rw [e1, e2]
      simp [h1, h2]
  · have e1 : decide ((l.length : Int) ≥ 2) = false := by simp; omega
    rw [e1]
    simp [h1]
theorem s_cmGood_eq {k : Nat} {l : List Sign} (hs : ∀ x ∈ l, smallS x) (hk : 2000010 ≤ k) : X.s_cmGood k l = some (gMade l) := by
  unfold X.s_cmGood gMade
  rw [s_l1In_eq, bind_some, s_paList_eq hs hk, bind_some]
  have e : inR (l.length : Int) 2 4 = decide (2 ≤ l.length ∧ l.length ≤ 4) := by
    rw [Bool.eq_iff_iff, inR_iff, decide_eq_true_iff]
    omega
  rw [e]
  by_cases h : 2 ≤ l.length ∧ l.length ≤ 4
  · have : decide (l.length ≤ 20) = true := by simp; omega
    simp [h, this]
  · simp [h]
theorem gMade_mem {l : List Sign} (h : gMade l = true) : ∀ x ∈ l, gSign x = true := by
  unfold gMade at h
  rw [Bool.and_eq_true, List.all_eq_true] at h
  exact h.2
theorem texts_eq (l : List Sign) (h : ∀ x ∈ l, gSign x = true) : ∀ (j : Nat) (acc : List Str), acc.length + l.length ≤ 1000000 → rangeM (fun (j9 : Int) (x10 : Sign) l2 => (Option.bind (X.i_Sign_text x10) fun v7_2 => (Option.bind (appG eS l2 ([v7_2] : List Str)) fun y7_4 => some (.inl y7_4)))) (fun l2 => some l2) l j acc = some (acc ++ l.map tSign) := by
  induction l with
  | nil => intro j acc _; rw [rangeM_nil]; simp
  | cons x l ih =>
    intro j acc hl
    have ha : appG eS acc [tSign x] = some (acc ++ [tSign x]) := by
      unfold appG
      rw [if_pos]
      show (acc.length + 1) * 16 ≤ _
      simp at hl
      omega
    rw [rangeM_cons, i_Sign_text_eq (h x List.mem_cons_self), bind_some, ha, bind_some, bind_some]
    refine (ih (fun y hy => h y (List.mem_cons_of_mem _ hy)) (j + 1) (acc ++ [tSign x]) (by simp at hl ⊢; omega)).trans ?_
    simp
theorem join_cons (sep a : Str) (l : List Str) (h : l ≠ []) : Lib.join (a :: l) sep = a ++ sep ++ Lib.join l sep := by
  unfold Lib.join
  cases l with
  | nil => exact absurd rfl h
  | cons b l => simp [List.intercalate, List.intersperse]
theorem join_one (sep a : Str) : Lib.join [a] sep = a := by
  unfold Lib.join
  simp [List.intercalate, List.intersperse]
theorem join_len (sep : Str) (m : Nat) : ∀ (l : List Str), (∀ x ∈ l, x.length ≤ m) → (Lib.join l sep).length ≤ l.length * (m + sep.length)
  | [], _ => by simp [Lib.join, List.intercalate]
  | [a], h => by
    rw [join_one]
    have := h a List.mem_cons_self
    simp
    omega
  | a :: b :: l, h => by
    rw [join_cons sep a (b :: l) (by simp)]
    have h1 := h a List.mem_cons_self
    have h2 := join_len sep m (b :: l) fun x hx => h x (List.mem_cons_of_mem _ hx)
    simp only [List.length_append, List.length_cons] at h2 ⊢
    rw [Nat.add_mul (l.length + 1) 1, Nat.one_mul]
    omega
/-- Texts, one behind the other, with something between. -/
theorem glue_eq (sep : Str) {k : Nat} (hk : 1 ≤ k) (hsep : sep.length = 1) : ∀ (l : List Sign) (j : Nat) (t : Str), 0 < j → (∀ x ∈ l, gSign x = true) → t.length + l.length * 62 ≤ 1000000 →
    rangeM (fun (j5 : Int) (x6 : Sign) t2 => (bif decide ((j5 : Int) > 0) then (Option.bind (catS t2 sep) fun y8_1 => (Option.bind (X.s_paText k x6) fun v9_2 => (Option.bind (catS y8_1 v9_2) fun y9_3 => some (.inl y9_3)))) else (Option.bind (X.s_paText k x6) fun v9_2 => (Option.bind (catS t2 v9_2) fun y9_3 => some (.inl y9_3))))) (fun t2 => some t2) l j t = some (if l = [] then t else t ++ sep ++ Lib.join (l.map tSign) sep)
  | [], j, t, _, _, _ => rfl
  | x :: l, j, t, hj, hg, hl => by
    have hx := tSign_len (hg x List.mem_cons_self)
    have hd : decide ((j : Int) > 0) = true := by simp; omega
    simp only [List.length_cons] at hl
    rw [rangeM_cons, hd, cond_true, catS_of (by omega), bind_some, s_paText_eq (hg x List.mem_cons_self) hk, bind_some, catS_of (by simp; omega), bind_some, bind_some]
    refine (glue_eq sep hk hsep l (j + 1) _ (by omega) (fun y hy => hg y (List.mem_cons_of_mem _ hy)) (by simp; omega)).trans ?_
    by_cases he : l = []
    · subst he
      simp [join_one]
    · rw [if_neg he, if_neg (by simp), List.map_cons, join_cons sep _ _ (by simpa using he)]
      simp
def vCompound (l : List Sign) : Str × Bool := if gMade l then (Lib.join (l.map tSign) [38], true) else ([], false)
theorem i_CompoundText_eq {k : Nat} {l : List Sign} (hs : ∀ x ∈ l, smallS x) (hl : l.length ≤ 1048576) (hk : 10 ≤ k) : X.i_CompoundText k l = some (vCompound l) := by
  unfold X.i_CompoundText vCompound
  rw [i_isMade_eq hs hk, bind_some]
  cases h : gMade l
  · rfl
  · have hm := gMade_mem h
    have hlen : l.length ≤ 4 := by
      unfold gMade at h
      simp at h
      omega
    simp only [Bool.not_true, cond_false, if_true]
    rw [texts_eq l hm 0 [] (by simp; omega), bind_some]
    unfold X.strings_Join
    have hj := join_len [38] 61 (l.map tSign) (fun x hx => by
      obtain ⟨y, hy, rfl⟩ := List.mem_map.1 hx
      exact tSign_len (hm y hy))
    simp only [List.nil_append, List.length_map, List.length_cons, List.length_nil] at hj ⊢
    rw [if_pos ⟨by omega, by omega⟩]
    rfl
theorem s_CompoundText_eq {k : Nat} {l : List Sign} (hs : ∀ x ∈ l, smallS x) (hl : l.length ≤ 1048576) (hk : 2000010 ≤ k) : X.s_CompoundText k l = some (vCompound l) := by
  unfold X.s_CompoundText vCompound
  rw [s_cmGood_eq hs hk, bind_some]
  cases h : gMade l
  · rfl
  · have hm := gMade_mem h
    have hlen : 2 ≤ l.length ∧ l.length ≤ 4 := by
      unfold gMade at h
      simp at h
      omega
    simp only [Bool.not_true, cond_false, if_true]
    cases l with
    | nil => simp at hlen
    | cons x l =>
      have hx := tSign_len (hm x List.mem_cons_self)
      have hd : decide (((0 : Nat) : Int) > 0) = false := rfl
      simp only [List.length_cons] at hlen
      rw [rangeM_cons, hd, cond_false, s_paText_eq (hm x List.mem_cons_self) (by omega), bind_some, catS_of (by simp; omega), bind_some, bind_some]
      simp only [List.nil_append]
      rw [glue_eq [38] (show 1 ≤ k by omega) rfl l 1 (tSign x) (by omega) (fun y hy => hm y (List.mem_cons_of_mem _ hy)) (by omega), bind_some]
      have he : l ≠ [] := by intro e; subst e; simp at hlen
      rw [if_neg he, List.map_cons, join_cons _ _ _ (by simpa using he)]
/-! ### Minimal pairs -/
end Go.Proofs.XC
namespace Go.Proofs.XC
open Go Go.RowKit
/-! ### Reduced movements -/
def isRoot (s : Str) (n : Nat) : Bool := decide (s.length % n = 0) && decide (Lib.repeatL (s.take n) (s.length / n) = s)
def rootF (s : Str) : Nat → Nat → Str
  | _, 0 => s
  | n, d + 1 => if isRoot s n then s.take n else rootF s (n + 1) d
def root (s : Str) : Str := rootF s 1 (s.length - 1)
theorem modI_nat {a b : Nat} (h : 0 < b) : modI (a : Int) (b : Int) = some ((a % b : Nat) : Int) := by
  unfold modI
  rw [if_neg (by omega)]
  congr 1
theorem divI_nat {a b : Nat} (h : 0 < b) (ha : a ≤ 1000000) : divI (a : Int) (b : Int) = some ((a / b : Nat) : Int) := by
  unfold divI
  rw [if_neg (by omega)]
  congr 1
  have : a / b ≤ a := Nat.div_le_self a b
  show wr ((a / b : Nat) : Int) = _
  generalize a / b = q at this
  exact wr_of (by omega) (by omega)
theorem nat_zero (n : Nat) : ((n : Int) == 0) = decide (n = 0) := by
  rw [beq_dec]
  rw [Bool.eq_iff_iff]
  simp
theorem div_le_of {a b : Nat} (h : 0 < b) : a / b ≤ a := Nat.div_le_self a b
theorem s_cmRoot_eq {k : Nat} {s : Str} (hs : s.length ≤ 100) (hk : 200 ≤ k) : X.s_cmRoot k s = some (root s) := by
  unfold X.s_cmRoot root
  have gen : ∀ (d n K : Nat), 1 ≤ n → n + d = max s.length 1 → d < K → orEl (loopM (fun n1 => (bif decide (n1 < (List.length s : Int)) then (Option.bind (modI (List.length s : Int) n1) fun y4_3 => (bif (y4_3 == 0) then (Option.bind (cutS s 0 n1) fun y4_8 => (Option.bind (divI (List.length s : Int) n1) fun y4_12 => (Option.bind (X.s_mvTimes k y4_8 y4_12) fun v4_13 => (bif (seq v4_13 s) then (Option.bind (cutS s 0 n1) fun y5_2 => some (.inr (Sum.inl y5_2))) else some (.inl (wr (n1 + 1))))))) else some (.inl (wr (n1 + 1))))) else some (.inr (.inr ())))) K (n : Int)) (fun r => some r) (fun (_ : Unit) => some s) = some (rootF s n d) := by
    intro d
    induction d with
    | zero =>
      intro n K hn hd hK
      obtain ⟨K, rfl⟩ : ∃ q, K = q + 1 := ⟨K - 1, by omega⟩
      have : decide ((n : Int) < (s.length : Int)) = false := by simp; omega
      rw [loopM_succ, this]
      rfl
    | succ d ih =>
      intro n K hn hd hK
      obtain ⟨K, rfl⟩ : ∃ q, K = q + 1 := ⟨K - 1, by omega⟩
      have hlt : n < s.length := by omega
      have e1 : decide ((n : Int) < (s.length : Int)) = true := by simp; omega
      have hdl := div_le_of (a := s.length) (b := n) (by omega)
      have ht : (s.take n).length = n := by simp; omega
      rw [loopM_succ, e1, cond_true, modI_nat (by omega), bind_some, nat_zero, rootF]
      unfold isRoot
      by_cases h1 : s.length % n = 0
      · simp only [h1, decide_true, cond_true, Bool.true_and]
        rw [cut0 s n (by omega), bind_some, divI_nat (by omega) (by omega), bind_some, s_mvTimes_eq (by omega) _ _ (by omega) (by omega), bind_some, seq_eq]
        by_cases h2 : Lib.repeatL (s.take n) (s.length / n) = s
        · simp only [h2, decide_true, cond_true, if_true, bind_some]
          rfl
        · simp only [h2, decide_false, cond_false, bind_some, Bool.false_eq_true, if_false, wr_suc (show n ≤ 4611686018427387904 by omega)]
          exact ih (n + 1) K (by omega) (by omega) (by omega)
      · simp only [h1, decide_false, cond_false, bind_some, Bool.false_and, Bool.false_eq_true, if_false, wr_suc (show n ≤ 4611686018427387904 by omega)]
        exact ih (n + 1) K (by omega) (by omega) (by omega)
  exact gen (s.length - 1) 1 k (by omega) (by omega) (by omega)
theorem i_Move_reduced_eq {k : Nat} {m : Move} (g : gMove m = true) (hk : 200 ≤ k) : X.i_Move_reduced k m = some ⟨root (allSteps m), 1⟩ := by
  unfold X.i_Move_reduced root
  have hs := all_len g
  rw [i_Move_all_eq g, bind_some]
  generalize hs' : allSteps m = s at hs
  by_cases h0 : s = []
  · subst h0
    obtain ⟨K, rfl⟩ : ∃ q, k = q + 1 := ⟨k - 1, by omega⟩
    rw [loopM_succ]
    have hm : m.Steps = [] := by
      obtain ⟨g1, g2, g3, g4⟩ := gMove_iff.1 g
      rcases g4 with g4 | g4
      · unfold allSteps at hs'
        obtain ⟨t, ht⟩ : ∃ t, m.Repeat.toNat = t + 1 := ⟨m.Repeat.toNat - 1, by omega⟩
        rw [ht] at hs'
        have : (Lib.repeatL m.Steps (t + 1)).length = 0 := by rw [hs']; rfl
        simp [Lib.repeatL] at this
        exact absurd this.1 g4
      · unfold allSteps at hs'
        rw [g4] at hs'
        simpa [Lib.repeatL] using hs'
    have hr : m.Repeat = 1 := by
      obtain ⟨g1, g2, g3, g4⟩ := gMove_iff.1 g
      rcases g4 with g4 | g4
      · exact absurd hm g4
      · exact g4
    obtain ⟨st, rp⟩ := m
    simp only at hm hr
    subst hm
    subst hr
    rfl
  · have hpos : 1 ≤ s.length := by
      rcases Nat.eq_zero_or_pos s.length with h | h
      · exact absurd (List.eq_nil_of_length_eq_zero h) h0
      · exact h
    have gen : ∀ (d n K : Nat), 1 ≤ n → n + d = s.length → d < K → orEl (loopM (fun n1 => (bif decide (n1 ≤ (List.length s : Int)) then (Option.bind (modI (List.length s : Int) n1) fun y5_3 => (bif (y5_3 == 0) then (Option.bind (cutS s 0 n1) fun y5_8 => (Option.bind (divI (List.length s : Int) n1) fun y5_12 => (Option.bind (X.strings_Repeat y5_8 y5_12) fun v5_13 => (bif (seq v5_13 s) then (Option.bind (cutS s 0 n1) fun y6_2 => some (.inr (Sum.inl (⟨y6_2, 1⟩ : Move)))) else some (.inl (wr (n1 + 1))))))) else some (.inl (wr (n1 + 1))))) else some (.inr (.inr ())))) K (n : Int)) (fun r => some r) (fun (_ : Unit) => some m) = some ⟨rootF s n d, 1⟩ := by
      intro d
      induction d with
      | zero =>
        intro n K hn hd hK
        obtain ⟨K, rfl⟩ : ∃ q, K = q + 1 := ⟨K - 1, by omega⟩
        have hnl : n = s.length := by omega
        subst hnl
        have e1 : decide (((s.length : Nat) : Int) ≤ (s.length : Int)) = true := by simp
        have h1 : s.length % s.length = 0 := Nat.mod_self _
        have h2 : s.length / s.length = 1 := Nat.div_self hpos
        have h3 : s.take s.length = s := List.take_length
        rw [loopM_succ, e1, cond_true, modI_nat (by omega), bind_some, nat_zero, h1]
        simp only [decide_true, cond_true]
        rw [cut0 s s.length (Nat.le_refl _), bind_some, divI_nat (by omega) (by omega), bind_some, h2, h3, repeat_eq (by omega) (by omega) (by omega), bind_some, seq_eq]
        have h4 : Lib.repeatL s ((1 : Nat) : Int).toNat = s := repeatL_one s
        rw [h4]
        simp only [decide_true, cond_true, bind_some]
        rfl
      | succ d ih =>
        intro n K hn hd hK
        obtain ⟨K, rfl⟩ : ∃ q, K = q + 1 := ⟨K - 1, by omega⟩
        have e1 : decide ((n : Int) ≤ (s.length : Int)) = true := by simp; omega
        have hdl := div_le_of (a := s.length) (b := n) (by omega)
        have hdi : ((s.length / n : Nat) : Int) ≤ 2000000 := by
          generalize s.length / n = q at hdl ⊢
          omega
        have ht : (s.take n).length = n := by simp; omega
        rw [loopM_succ, e1, cond_true, modI_nat (by omega), bind_some, nat_zero, rootF]
        unfold isRoot
        by_cases h1 : s.length % n = 0
        · simp only [h1, decide_true, cond_true, Bool.true_and]
          rw [cut0 s n (by omega), bind_some, divI_nat (by omega) (by omega), bind_some, repeat_eq (Int.natCast_nonneg _) hdi (by omega), bind_some, seq_eq]
          simp only [Int.toNat_natCast]
          by_cases h2 : Lib.repeatL (s.take n) (s.length / n) = s
          · simp only [h2, decide_true, cond_true, if_true, bind_some]
            rfl
          · simp only [h2, decide_false, cond_false, bind_some, Bool.false_eq_true, if_false, wr_suc (show n ≤ 4611686018427387904 by omega)]
            exact ih (n + 1) K (by omega) (by omega) (by omega)
        · simp only [h1, decide_false, cond_false, bind_some, Bool.false_and, Bool.false_eq_true, if_false, wr_suc (show n ≤ 4611686018427387904 by omega)]
          exact ih (n + 1) K (by omega) (by omega) (by omega)
    exact gen (s.length - 1) 1 k (by omega) (by omega) (by omega)
/-- A sign, its movements reduced. -/
def redS (s : Sign) : Sign := if s.Two then ⟨{ s.Main with Move := ⟨root (allSteps s.Main.Move), 1⟩ }, s.Two, { s.Other with Move := ⟨root (allSteps s.Other.Move), 1⟩ }⟩ else { s with Main := { s.Main with Move := ⟨root (allSteps s.Main.Move), 1⟩ } }
theorem i_reduced_eq {k : Nat} {s : Sign} (g : gSign s = true) (hk : 200 ≤ k) : X.i_Sign_reduced k s = some (redS s) := by
  unfold X.i_Sign_reduced redS
  rw [i_Move_reduced_eq (gHand_iff.1 (gSign_main g)).2.2.2 hk, bind_some]
  cases h : s.Two
  · rfl
  · rw [i_Move_reduced_eq (gHand_iff.1 (gSign_other g h).1).2.2.2 hk]
    rfl
theorem s_reduce_eq {k : Nat} {s : Sign} (g : gSign s = true) (hk : 200 ≤ k) : X.s_cmReduce k s = some (redS s) := by
  unfold X.s_cmReduce redS
  have g1 := (gHand_iff.1 (gSign_main g)).2.2.2
  have l1 := all_len g1
  rw [s_mvAll_eq g1 (by omega), bind_some, s_cmRoot_eq (by omega) hk, bind_some]
  cases h : s.Two
  · rfl
  · have g2 := (gHand_iff.1 (gSign_other g h).1).2.2.2
    have l2 := all_len g2
    rw [s_mvAll_eq g2 (by omega), bind_some, s_cmRoot_eq (by omega) hk]
    rfl
/-! ### The parts of a compound -/
end Go.Proofs.XC
