/- Plain laws of the plain functions: no program, no memory. By AI agents; no person has read it. -/
import Derived.Test.YtenkalmmdamfgaaGreatDoorPX
set_option linter.unusedVariables false
set_option linter.unusedSimpArgs false
set_option maxRecDepth 100000
set_option maxHeartbeats 40000000
namespace Go.Proofs.XC
open Go Go.RowKit
/-! ### Loops over an index -/
theorem wr_suc {n : Nat} (h : n ≤ 4611686018427387904) : wr ((n : Int) + 1) = ((n + 1 : Nat) : Int) := by
  rw [wr_of (by omega) (by omega)]
  omega
theorem getI_of {α : Type} {l : List α} {i : Nat} {x : α} (h : l[i]? = some x) : getI l (i : Int) = some x := by
  unfold getI
  rw [if_pos (by omega)]
  simpa using h
theorem lt_get {α : Type} {l : List α} {i : Nat} {x : α} (h : l[i]? = some x) : i < l.length := (List.getElem?_eq_some_iff.1 h).1
end Go.Proofs.XC
namespace Go.Proofs.XC
open Go Go.RowKit
/-! ### Uses -/
/-- The places of the elements for which p holds. -/
def ixs {α : Type} (p : α → Bool) : List α → Nat → List Int
  | [], _ => []
  | x :: l, j => if p x then (j : Int) :: ixs p l (j + 1) else ixs p l (j + 1)
theorem ixs_len {α : Type} (p : α → Bool) : ∀ (l : List α) (j : Nat), (ixs p l j).length ≤ l.length
  | [], j => by simp [ixs]
  | x :: l, j => by
    have := ixs_len p l (j + 1)
    unfold ixs
    split <;> simp <;> omega
theorem those_gen {α : Type} (p : α → Bool) {body : Int → α → List Int → Option (List Int ⊕ List Int)} {fin : List Int → Option (List Int)} (h2 : ∀ s, fin s = some s) : ∀ (l : List α) (j : Nat) (acc : List Int), acc.length + l.length ≤ 1000000000000 →
    (∀ (i : Nat) x s, l[i]? = some x → body ((j + i : Nat) : Int) x s = if p x then Option.bind (appG (eI .i64) s [((j + i : Nat) : Int)]) (fun y => some (.inl y)) else some (.inl s)) → rangeM body fin l j acc = some (acc ++ ixs p l j)
  | [], j, acc, _, _ => by rw [rangeM_nil, h2]; simp [ixs]
  | x :: l, j, acc, hl, hb => by
    have h0 := hb 0 x acc rfl
    have hb' : ∀ (i : Nat) y s, l[i]? = some y → body ((j + 1 + i : Nat) : Int) y s = if p y then Option.bind (appG (eI .i64) s [((j + 1 + i : Nat) : Int)]) (fun y => some (.inl y)) else some (.inl s) := fun i y s hy => by
      have := hb (i + 1) y s (by simpa using hy)
      rw [show j + (i + 1) = j + 1 + i by omega] at this
      exact this
    simp only [Nat.add_zero] at h0
    rw [rangeM_cons, h0]
    by_cases h : p x = true
    · have ha : appG (eI .i64) acc [(j : Int)] = some (acc ++ [(j : Int)]) := by
        unfold appG
        rw [if_pos]
        show (acc.length + 1) * 8 ≤ _
        simp at hl
        omega
      simp only [h, if_true, ha, bind_some]
      rw [those_gen p h2 l (j + 1) (acc ++ [(j : Int)]) (by simp at hl ⊢; omega) hb']
      simp [ixs, h]
    · simp only [h, if_false, bind_some, Bool.false_eq_true]
      rw [those_gen p h2 l (j + 1) acc (by simp at hl ⊢; omega) hb']
      simp [ixs, h]
/-! ### The entry for a region -/
/-- The first place where p holds, or else n. -/
def fst_ {α : Type} (p : α → Bool) : List α → Nat → Int → Int
  | [], _, n => n
  | x :: l, j, n => if p x then (j : Int) else fst_ p l (j + 1) n
end Go.Proofs.XC
namespace Go.Proofs.XC
open Go Go.RowKit
/-! ### Lists of signs -/
/-- All of them. -/
theorem all_range {α : Type} {F : α → Option Bool} (p : α → Bool) (l : List α) (hF : ∀ x ∈ l, F x = some (p x)) {G : Unit → Option Bool} :
    orEl (rangeM (fun (j2 : Int) (x3 : α) (_ : Unit) => (Option.bind (F x3) fun v => (bif (!v) then some (.inr (Sum.inl false)) else some (.inl ())))) (fun _ => some (Sum.inr ())) l 0 ()) (fun r => some r) G = if l.all p then G () else some false := by
  have key : ∀ (l : List α) (j : Nat), (∀ x ∈ l, F x = some (p x)) → rangeM (fun (j2 : Int) (x3 : α) (_ : Unit) => (Option.bind (F x3) fun v => (bif (!v) then some (.inr (Sum.inl false)) else some (.inl ())))) (fun _ => some (Sum.inr ())) l j () = some (if l.all p then .inr () else .inl false) := by
    intro l
    induction l with
    | nil => intro j _; rfl
    | cons x l ih =>
      intro j hF
      rw [rangeM_cons, hF x List.mem_cons_self, bind_some]
      cases h : p x
      · simp [h, bind_some]
      · simp only [Bool.not_true, cond_false, bind_some, List.all_cons, h, Bool.true_and]
        exact ih (j + 1) fun y hy => hF y (List.mem_cons_of_mem _ hy)
  rw [key l 0 hF]
  cases l.all p <;> rfl
theorem s_paList_eq {k : Nat} {l : List Sign} (hs : ∀ x ∈ l, smallS x) (hk : 2000010 ≤ k) : X.s_paList k l = some (l.all gSign && decide (l.length ≤ 20)) := by
  unfold X.s_paList
  rw [all_range gSign l fun x hx => s_siGood_eq (hs x hx) hk]
  cases l.all gSign
  · rfl
  · simp
    omega
theorem contains_eq (l : List Sign) (F : Sign → Option Bool) (p : Sign → Bool) (hF : ∀ x ∈ l, F x = some (p x)) : X.slices_ContainsFunc_i_Sign_i_Sign l F = some (l.any p) := by
  unfold X.slices_ContainsFunc_i_Sign_i_Sign X.slices_IndexFunc_i_Sign_i_Sign
  exact anyF_eq p F l hF
theorem i_allOf_eq (l : List Sign) (F : Sign → Option Bool) (p : Sign → Bool) (hF : ∀ x ∈ l, F x = some (p x)) : X.i_allOf_i_Sign l F = some (l.all p) := by
  unfold X.i_allOf_i_Sign
  rw [contains_eq l _ (fun x => !(p x)) fun x hx => by unfold X.i_allOf_i_Sign_1; rw [hF x hx]; rfl]
  simp only [bind_some]
  congr 1
  rw [List.any_eq_not_all_not]
  simp
theorem i_areSigns_eq {k : Nat} {l : List Sign} {n : Int} (hs : ∀ x ∈ l, smallS x) (hk : 10 ≤ k) : X.i_areSigns k l n = some (decide ((l.length : Int) ≤ n) && l.all gSign) := by
  unfold X.i_areSigns
  rw [i_allOf_eq l _ gSign fun x hx => i_IsSign_eq (hs x hx) hk]
  cases decide ((l.length : Int) ≤ n) <;> rfl
/-! ### Texts of compounds -/
def gMade (l : List Sign) : Bool := decide (2 ≤ l.length ∧ l.length ≤ 4) && l.all gSign
theorem i_isMade_eq {k : Nat} {l : List Sign} (hs : ∀ x ∈ l, smallS x) (hk : 10 ≤ k) : X.i_isMade k l = some (gMade l) := by
  unfold X.i_isMade gMade
  rw [i_areSigns_eq hs hk, bind_some]
  by_cases h1 : 2 ≤ l.length
  · by_cases h2 : l.length ≤ 4
    · have e1 : decide ((l.length : Int) ≥ 2) = true := by simp; omega
      have e2 : decide ((l.length : Int) ≤ 4) = true := by simp; omega
      rw [e1, e2]
      simp [h1, h2]
    · have e1 : decide ((l.length : Int) ≥ 2) = true := by simp; omega
      have e2 : decide ((l.length : Int) ≤ 4) = false := by simp; omega
      rw [e1, e2]
      simp [h1, h2]
  · have e1 : decide ((l.length : Int) ≥ 2) = false := by simp; omega
    rw [e1]
    simp [h1]
theorem s_cmGood_eq {k : Nat} {l : List Sign} (hs : ∀ x ∈ l, smallS x) (hk : 2000010 ≤ k) : X.s_cmGood k l = some (gMade l) := by
  unfold X.s_cmGood gMade
  rw [s_l1In_eq, bind_some, s_paList_eq hs hk, bind_some]
  have e : inR (l.length : Int) 2 4 = decide (2 ≤ l.length ∧ l.length ≤ 4) := by
    rw [Bool.eq_iff_iff, inR_iff, decide_eq_true_iff]
    omega
  rw [e]
  by_cases h : 2 ≤ l.length ∧ l.length ≤ 4
  · have : decide (l.length ≤ 20) = true := by simp; omega
    simp [h, this]
  · simp [h]
theorem gMade_mem {l : List Sign} (h : gMade l = true) : ∀ x ∈ l, gSign x = true := by
  unfold gMade at h
  rw [Bool.and_eq_true, List.all_eq_true] at h
  exact h.2
/-! ### Minimal pairs -/
end Go.Proofs.XC
namespace Go.Proofs.XC
open Go Go.RowKit
/-! ### Reduced movements -/
def isRoot (s : Str) (n : Nat) : Bool := decide (s.length % n = 0) && decide (Lib.repeatL (s.take n) (s.length / n) = s)
def rootF (s : Str) : Nat → Nat → Str
  | _, 0 => s
  | n, d + 1 => if isRoot s n then s.take n else rootF s (n + 1) d
def root (s : Str) : Str := rootF s 1 (s.length - 1)
theorem modI_nat {a b : Nat} (h : 0 < b) : modI (a : Int) (b : Int) = some ((a % b : Nat) : Int) := by
  unfold modI
  rw [if_neg (by omega)]
  congr 1
theorem divI_nat {a b : Nat} (h : 0 < b) (ha : a ≤ 1000000) : divI (a : Int) (b : Int) = some ((a / b : Nat) : Int) := by
  unfold divI
  rw [if_neg (by omega)]
  congr 1
  have : a / b ≤ a := Nat.div_le_self a b
  show wr ((a / b : Nat) : Int) = _
  generalize a / b = q at this
  exact wr_of (by omega) (by omega)
theorem nat_zero (n : Nat) : ((n : Int) == 0) = decide (n = 0) := by
  rw [beq_dec]
  rw [Bool.eq_iff_iff]
  simp
theorem div_le_of {a b : Nat} (h : 0 < b) : a / b ≤ a := Nat.div_le_self a b
theorem s_cmRoot_eq {k : Nat} {s : Str} (hs : s.length ≤ 100) (hk : 200 ≤ k) : X.s_cmRoot k s = some (root s) := by
  unfold X.s_cmRoot root
  have gen : ∀ (d n K : Nat), 1 ≤ n → n + d = max s.length 1 → d < K → orEl (loopM (fun n1 => (bif decide (n1 < (List.length s : Int)) then (Option.bind (modI (List.length s : Int) n1) fun y4_3 => (bif (y4_3 == 0) then (Option.bind (cutS s 0 n1) fun y4_8 => (Option.bind (divI (List.length s : Int) n1) fun y4_12 => (Option.bind (X.s_mvTimes k y4_8 y4_12) fun v4_13 => (bif (seq v4_13 s) then (Option.bind (cutS s 0 n1) fun y5_2 => some (.inr (Sum.inl y5_2))) else some (.inl (wr (n1 + 1))))))) else some (.inl (wr (n1 + 1))))) else some (.inr (.inr ())))) K (n : Int)) (fun r => some r) (fun (_ : Unit) => some s) = some (rootF s n d) := by
    intro d
    induction d with
    | zero =>
      intro n K hn hd hK
      obtain ⟨K, rfl⟩ : ∃ q, K = q + 1 := ⟨K - 1, by omega⟩
      have : decide ((n : Int) < (s.length : Int)) = false := by simp; omega
      rw [loopM_succ, this]
      rfl
    | succ d ih =>
      intro n K hn hd hK
      obtain ⟨K, rfl⟩ : ∃ q, K = q + 1 := ⟨K - 1, by omega⟩
      have hlt : n < s.length := by omega
      have e1 : decide ((n : Int) < (s.length : Int)) = true := by simp; omega
      have hdl := div_le_of (a := s.length) (b := n) (by omega)
      have ht : (s.take n).length = n := by simp; omega
      rw [loopM_succ, e1, cond_true, modI_nat (by omega), bind_some, nat_zero, rootF]
      unfold isRoot
      by_cases h1 : s.length % n = 0
      · simp only [h1, decide_true, cond_true, Bool.true_and]
        rw [cut0 s n (by omega), bind_some, divI_nat (by omega) (by omega), bind_some, s_mvTimes_eq (by omega) _ _ (by omega) (by omega), bind_some, seq_eq]
        by_cases h2 : Lib.repeatL (s.take n) (s.length / n) = s
        · simp only [h2, decide_true, cond_true, if_true, bind_some]
          rfl
        · simp only [h2, decide_false, cond_false, bind_some, Bool.false_eq_true, if_false, wr_suc (show n ≤ 4611686018427387904 by omega)]
          exact ih (n + 1) K (by omega) (by omega) (by omega)
      · simp only [h1, decide_false, cond_false, bind_some, Bool.false_and, Bool.false_eq_true, if_false, wr_suc (show n ≤ 4611686018427387904 by omega)]
        exact ih (n + 1) K (by omega) (by omega) (by omega)
  exact gen (s.length - 1) 1 k (by omega) (by omega) (by omega)
theorem i_Move_reduced_eq {k : Nat} {m : Move} (g : gMove m = true) (hk : 200 ≤ k) : X.i_Move_reduced k m = some ⟨root (allSteps m), 1⟩ := by
  unfold X.i_Move_reduced root
  have hs := all_len g
  rw [i_Move_all_eq g, bind_some]
  generalize hs' : allSteps m = s at hs
  by_cases h0 : s = []
  · subst h0
    obtain ⟨K, rfl⟩ : ∃ q, k = q + 1 := ⟨k - 1, by omega⟩
    rw [loopM_succ]
    have hm : m.Steps = [] := by
      obtain ⟨g1, g2, g3, g4⟩ := gMove_iff.1 g
      rcases g4 with g4 | g4
      · unfold allSteps at hs'
        obtain ⟨t, ht⟩ : ∃ t, m.Repeat.toNat = t + 1 := ⟨m.Repeat.toNat - 1, by omega⟩
        rw [ht] at hs'
        have : (Lib.repeatL m.Steps (t + 1)).length = 0 := by rw [hs']; rfl
        simp [Lib.repeatL] at this
        exact absurd this.1 g4
      · unfold allSteps at hs'
        rw [g4] at hs'
        simpa [Lib.repeatL] using hs'
    have hr : m.Repeat = 1 := by
      obtain ⟨g1, g2, g3, g4⟩ := gMove_iff.1 g
      rcases g4 with g4 | g4
      · exact absurd hm g4
      · exact g4
    obtain ⟨st, rp⟩ := m
    simp only at hm hr
    subst hm
    subst hr
    rfl
  · have hpos : 1 ≤ s.length := by
      rcases Nat.eq_zero_or_pos s.length with h | h
      · exact absurd (List.eq_nil_of_length_eq_zero h) h0
      · exact h
    have gen : ∀ (d n K : Nat), 1 ≤ n → n + d = s.length → d < K → orEl (loopM (fun n1 => (bif decide (n1 ≤ (List.length s : Int)) then (Option.bind (modI (List.length s : Int) n1) fun y5_3 => (bif (y5_3 == 0) then (Option.bind (cutS s 0 n1) fun y5_8 => (Option.bind (divI (List.length s : Int) n1) fun y5_12 => (Option.bind (X.strings_Repeat y5_8 y5_12) fun v5_13 => (bif (seq v5_13 s) then (Option.bind (cutS s 0 n1) fun y6_2 => some (.inr (Sum.inl (⟨y6_2, 1⟩ : Move)))) else some (.inl (wr (n1 + 1))))))) else some (.inl (wr (n1 + 1))))) else some (.inr (.inr ())))) K (n : Int)) (fun r => some r) (fun (_ : Unit) => some m) = some ⟨rootF s n d, 1⟩ := by
      intro d
      induction d with
      | zero =>
        intro n K hn hd hK
        obtain ⟨K, rfl⟩ : ∃ q, K = q + 1 := ⟨K - 1, by omega⟩
        have hnl : n = s.length := by omega
        subst hnl
        have e1 : decide (((s.length : Nat) : Int) ≤ (s.length : Int)) = true := by simp
        have h1 : s.length % s.length = 0 := Nat.mod_self _
        have h2 : s.length / s.length = 1 := Nat.div_self hpos
        have h3 : s.take s.length = s := List.take_length
        rw [loopM_succ, e1, cond_true, modI_nat (by omega), bind_some, nat_zero, h1]
        simp only [decide_true, cond_true]
        rw [cut0 s s.length (Nat.le_refl _), bind_some, divI_nat (by omega) (by omega), bind_some, h2, h3, repeat_eq (by omega) (by omega) (by omega), bind_some, seq_eq]
        have h4 : Lib.repeatL s ((1 : Nat) : Int).toNat = s := repeatL_one s
        rw [h4]
        simp only [decide_true, cond_true, bind_some]
        rfl
      | succ d ih =>
        intro n K hn hd hK
        obtain ⟨K, rfl⟩ : ∃ q, K = q + 1 := ⟨K - 1, by omega⟩
        have e1 : decide ((n : Int) ≤ (s.length : Int)) = true := by simp; omega
        have hdl := div_le_of (a := s.length) (b := n) (by omega)
        have hdi : ((s.length / n : Nat) : Int) ≤ 2000000 := by
          generalize s.length / n = q at hdl ⊢
          omega
        have ht : (s.take n).length = n := by simp; omega
        rw [loopM_succ, e1, cond_true, modI_nat (by omega), bind_some, nat_zero, rootF]
        unfold isRoot
        by_cases h1 : s.length % n = 0
        · simp only [h1, decide_true, cond_true, Bool.true_and]
          rw [cut0 s n (by omega), bind_some, divI_nat (by omega) (by omega), bind_some, repeat_eq (Int.natCast_nonneg _) hdi (by omega), bind_some, seq_eq]
          simp only [Int.toNat_natCast]
          by_cases h2 : Lib.repeatL (s.take n) (s.length / n) = s
          · simp only [h2, decide_true, cond_true, if_true, bind_some]
            rfl
          · simp only [h2, decide_false, cond_false, bind_some, Bool.false_eq_true, if_false, wr_suc (show n ≤ 4611686018427387904 by omega)]
            exact ih (n + 1) K (by omega) (by omega) (by omega)
        · simp only [h1, decide_false, cond_false, bind_some, Bool.false_and, Bool.false_eq_true, if_false, wr_suc (show n ≤ 4611686018427387904 by omega)]
          exact ih (n + 1) K (by omega) (by omega) (by omega)
    exact gen (s.length - 1) 1 k (by omega) (by omega) (by omega)
/-- A sign, its movements reduced. -/
def redS (s : Sign) : Sign := if s.Two then ⟨{ s.Main with Move := ⟨root (allSteps s.Main.Move), 1⟩ }, s.Two, { s.Other with Move := ⟨root (allSteps s.Other.Move), 1⟩ }⟩ else { s with Main := { s.Main with Move := ⟨root (allSteps s.Main.Move), 1⟩ } }
theorem i_reduced_eq {k : Nat} {s : Sign} (g : gSign s = true) (hk : 200 ≤ k) : X.i_Sign_reduced k s = some (redS s) := by
  unfold X.i_Sign_reduced redS
  rw [i_Move_reduced_eq (gHand_iff.1 (gSign_main g)).2.2.2 hk, bind_some]
  cases h : s.Two
  · rfl
  · rw [i_Move_reduced_eq (gHand_iff.1 (gSign_other g h).1).2.2.2 hk]
    rfl
theorem s_reduce_eq {k : Nat} {s : Sign} (g : gSign s = true) (hk : 200 ≤ k) : X.s_cmReduce k s = some (redS s) := by
  unfold X.s_cmReduce redS
  have g1 := (gHand_iff.1 (gSign_main g)).2.2.2
  have l1 := all_len g1
  rw [s_mvAll_eq g1 (by omega), bind_some, s_cmRoot_eq (by omega) hk, bind_some]
  cases h : s.Two
  · rfl
  · have g2 := (gHand_iff.1 (gSign_other g h).1).2.2.2
    have l2 := all_len g2
    rw [s_mvAll_eq g2 (by omega), bind_some, s_cmRoot_eq (by omega) hk]
    rfl
/-! ### The parts of a compound -/
theorem indexS_eq (l : List Sign) (F : Sign → Option Bool) (p : Sign → Bool) (hF : ∀ x ∈ l, F x = some (p x)) : X.slices_IndexFunc_i_Sign_i_Sign l F = some (fst_ p l 0 (-1)) := by
  unfold X.slices_IndexFunc_i_Sign_i_Sign
  have key : ∀ (l : List Sign) (j : Nat), (∀ x ∈ l, F x = some (p x)) → orEl (rangeM (fun (j2 : Int) (x3 : Sign) (_ : Unit) => (Option.bind (F x3) fun v4_5 => (bif v4_5 then some (.inr (.inl (j2 : Int))) else some (.inl ())))) (fun _ => some (.inr ())) l j ()) (fun r => some r) (fun (_ : Unit) => some (-1)) = some (fst_ p l j (-1)) := by
    intro l
    induction l with
    | nil => intro j _; rfl
    | cons x l ih =>
      intro j hF
      rw [rangeM_cons, hF x List.mem_cons_self, bind_some]
      unfold fst_
      cases h : p x
      · simp only [cond_false, bind_some, Bool.false_eq_true, if_false]
        exact ih (j + 1) fun y hy => hF y (List.mem_cons_of_mem _ hy)
      · rfl
  exact key l 0 hF
/-- The first one, looked for by a walk through all. -/
theorem firstOf {α : Type} {body : Int → α → Int → Option (Int ⊕ Int)} (p : α → Bool) : ∀ (l : List α) (j : Nat) (n : Int), (n = -1 ∨ 0 ≤ n) → (∀ (i : Nat) x (n : Int), l[i]? = some x → body ((j + i : Nat) : Int) x n = some (.inl (if n < 0 then (if p x then ((j + i : Nat) : Int) else n) else n))) →
    rangeM body (fun n => some n) l j n = some (if n < 0 then fst_ p l j (-1) else n)
  | [], j, n, hn, _ => by
    rw [rangeM_nil]
    rcases hn with rfl | hn
    · rfl
    · have : ¬ n < 0 := by omega
      simp [this]
  | x :: l, j, n, hn, hb => by
    have h0 := hb 0 x n rfl
    have hb' : ∀ (i : Nat) y (n : Int), l[i]? = some y → body ((j + 1 + i : Nat) : Int) y n = some (.inl (if n < 0 then (if p y then ((j + 1 + i : Nat) : Int) else n) else n)) := fun i y n hy => by
      have := hb (i + 1) y n (by simpa using hy)
      rw [show j + (i + 1) = j + 1 + i by omega] at this
      exact this
    simp only [Nat.add_zero] at h0
    rw [rangeM_cons, h0, bind_some]
    by_cases hneg : n < 0
    · have hn1 : n = -1 := by omega
      subst hn1
      by_cases hp : p x = true
      · simp only [hp, if_true, fst_]
        refine (firstOf p l (j + 1) (j : Int) (.inr (by omega)) hb').trans ?_
        have : ¬ (j : Int) < 0 := by omega
        simp [this]
      · simp only [hp, if_false, fst_, if_true, Bool.false_eq_true]
        refine (firstOf p l (j + 1) (-1) (.inl rfl) hb').trans ?_
        rfl
    · simp only [hneg, if_false]
      refine (firstOf p l (j + 1) n hn hb').trans ?_
      simp [hneg]
theorem rangeM_congr {α σ ρ : Type} {b1 b2 : Int → α → σ → Option (σ ⊕ ρ)} {fin : σ → Option ρ} : ∀ (l : List α) (j : Nat) (s : σ), (∀ (i : Nat) x s, l[i]? = some x → b1 ((j + i : Nat) : Int) x s = b2 ((j + i : Nat) : Int) x s) → rangeM b1 fin l j s = rangeM b2 fin l j s
  | [], _, _, _ => rfl
  | x :: l, j, s, h => by
    have h0 := h 0 x s rfl
    simp only [Nat.add_zero] at h0
    rw [rangeM_cons, rangeM_cons, h0]
    congr 1
    funext o
    cases o with
    | inr r => rfl
    | inl s' =>
      exact rangeM_congr l (j + 1) s' fun i y s hy => by
        have := h (i + 1) y s (by simpa using hy)
        rw [show j + (i + 1) = j + 1 + i by omega] at this
        exact this
def pPart (n : Nat) (j : Int) (x y : Sign) : Bool := if j + 1 < (n : Int) then decide (redS y = x) else decide (y = x)
def bPart (lex : List Sign) (n : Nat) (j : Int) (x : Sign) (l3 : List Int) : Option (List Int ⊕ ((List Int × Bool) ⊕ List Int)) :=
  if fst_ (pPart n j x) lex 0 (-1) < 0 then some (.inr (.inl ([], false))) else Option.bind (appG (eI .i64) l3 [fst_ (pPart n j x) lex 0 (-1)]) fun y => some (.inl y)
def vParts (lex l : List Sign) : Option (List Int × Bool) := if lex.all gSign && decide (lex.length ≤ 20) && gMade l then orEl (rangeM (bPart lex l.length) (fun l3 => some (.inr l3)) l 0 []) (fun r => some r) (fun l6 => some (l6, true)) else some ([], false)
theorem i_PartsOf_eq {k : Nat} {lex l : List Sign} (hs : ∀ x ∈ lex, smallS x) (hs2 : ∀ x ∈ l, smallS x) (hl : l.length ≤ 1048576) (hk : 200 ≤ k) : X.i_PartsOfCompound k lex l = vParts lex l := by
  unfold X.i_PartsOfCompound vParts
  rw [i_areSigns_eq hs (by omega), bind_some, i_isMade_eq hs2 (by omega), bind_some]
  have e : decide ((lex.length : Int) ≤ 20) = decide (lex.length ≤ 20) := by rw [Bool.eq_iff_iff]; simp; omega
  rw [e, Bool.and_comm (decide (lex.length ≤ 20))]
  cases hg : (lex.all gSign && decide (lex.length ≤ 20))
  · rfl
  · cases hm : gMade l
    · rfl
    · simp only [Bool.not_true, cond_false, Bool.true_and, if_true]
      rw [Bool.and_eq_true, List.all_eq_true] at hg
      congr 1
      refine rangeM_congr l 0 [] fun i x s hx => ?_
      simp only [Nat.zero_add]
      have hlt := lt_get hx
      rw [indexS_eq lex _ (pPart l.length (i : Int) x) fun y hy => ?_, bind_some]
      · unfold bPart
        by_cases h : fst_ (pPart l.length (i : Int) x) lex 0 (-1) < 0 <;> simp [h]
      · unfold X.i_PartsOfCompound_1 pPart
        rw [i_reduced_eq (hg.1 y hy) hk, bind_some, wr_of (by omega) (by omega), qSign_iff, qSign_iff]
        by_cases h : (i : Int) + 1 < (l.length : Int) <;> simp [h]
theorem s_PartsOf_eq {k : Nat} {lex l : List Sign} (hs : ∀ x ∈ lex, smallS x) (hs2 : ∀ x ∈ l, smallS x) (hl : l.length ≤ 1048576) (hk : 2000010 ≤ k) : X.s_PartsOfCompound k lex l = vParts lex l := by
  unfold X.s_PartsOfCompound vParts
  rw [s_paList_eq hs hk, bind_some, s_cmGood_eq hs2 hk, bind_some]
  cases hg : (lex.all gSign && decide (lex.length ≤ 20))
  · rfl
  · cases hm : gMade l
    · rfl
    · simp only [Bool.not_true, cond_false, Bool.true_and, if_true]
      rw [Bool.and_eq_true, List.all_eq_true] at hg
      congr 1
      refine rangeM_congr l 0 [] fun i x s hx => ?_
      simp only [Nat.zero_add]
      have hlt := lt_get hx
      rw [firstOf (pPart l.length (i : Int) x) lex 0 (-1) (.inl rfl) fun q y n hy => ?_, bind_some]
      · unfold bPart
        have e1 : ((-1 : Int) < 0) = True := by simp
        simp only [e1, if_true]
        by_cases h : fst_ (pPart l.length (i : Int) x) lex 0 (-1) < 0 <;> simp [h]
      · unfold pPart
        simp only [Nat.zero_add]
        rw [s_reduce_eq (hg.1 y (List.mem_of_getElem? hy)) (by omega), bind_some, wr_of (by omega) (by omega), qSign_iff, qSign_iff]
        generalize decide (redS y = x) = b1
        generalize decide (y = x) = b2
        by_cases h : (i : Int) + 1 < (l.length : Int) <;> by_cases h2 : n < 0 <;> cases b1 <;> cases b2 <;> simp [h, h2]
end Go.Proofs.XC
