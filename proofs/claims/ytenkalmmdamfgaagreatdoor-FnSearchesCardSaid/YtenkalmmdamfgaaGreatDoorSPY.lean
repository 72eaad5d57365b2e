/- Plain laws of the plain functions: no program, no memory. By AI agents; no person has read it. -/
import Derived.Test.YtenkalmmdamfgaaGreatDoorSPX
set_option linter.unusedVariables false
set_option linter.unusedSimpArgs false
set_option maxRecDepth 100000
set_option maxHeartbeats 40000000
namespace Go.Proofs.XC
open Go Go.RowKit
/-! ### Loops over an index -/
theorem wr_suc {n : Nat} (h : n ≤ 4611686018427387904) : wr ((n : Int) + 1) = ((n + 1 : Nat) : Int) := by
  rw [wr_of (by omega) (by omega)]
  omega
theorem getI_of {α : Type} {l : List α} {i : Nat} {x : α} (h : l[i]? = some x) : getI l (i : Int) = some x := by
  unfold getI
  rw [if_pos (by omega)]
  simpa using h
theorem lt_get {α : Type} {l : List α} {i : Nat} {x : α} (h : l[i]? = some x) : i < l.length := (List.getElem?_eq_some_iff.1 h).1
theorem dec_lt {α : Type} {l : List α} {i : Nat} {x : α} (h : l[i]? = some x) : decide ((i : Int) < (l.length : Int)) = true := by
  have := lt_get h
  simp
  omega
theorem dec_end (n : Nat) : decide ((n : Int) < (n : Int)) = false := by simp
end Go.Proofs.XC
namespace Go.Proofs.XC
open Go Go.RowKit
/-! ### Uses -/
/-- The places of the elements for which p holds. -/
def ixs {α : Type} (p : α → Bool) : List α → Nat → List Int
  | [], _ => []
  | x :: l, j => if p x then (j : Int) :: ixs p l (j + 1) else ixs p l (j + 1)
theorem those_gen {α : Type} (p : α → Bool) {body : Int → α → List Int → Option (List Int ⊕ List Int)} {fin : List Int → Option (List Int)} (h2 : ∀ s, fin s = some s) : ∀ (l : List α) (j : Nat) (acc : List Int), acc.length + l.length ≤ 1000000000000 →
    (∀ (i : Nat) x s, l[i]? = some x → body ((j + i : Nat) : Int) x s = if p x then Option.bind (appG (eI .i64) s [((j + i : Nat) : Int)]) (fun y => some (.inl y)) else some (.inl s)) → rangeM body fin l j acc = some (acc ++ ixs p l j)
  | [], j, acc, _, _ => by rw [rangeM_nil, h2]; simp [ixs]
  | x :: l, j, acc, hl, hb => by
    have h0 := hb 0 x acc rfl
    have hb' : ∀ (i : Nat) y s, l[i]? = some y → body ((j + 1 + i : Nat) : Int) y s = if p y then Option.bind (appG (eI .i64) s [((j + 1 + i : Nat) : Int)]) (fun y => some (.inl y)) else some (.inl s) := fun i y s hy => by
      have := hb (i + 1) y s (by simpa using hy)
      rw [show j + (i + 1) = j + 1 + i by omega] at this
      exact this
    simp only [Nat.add_zero] at h0
    rw [rangeM_cons, h0]
    by_cases h : p x = true
    · have ha : appG (eI .i64) acc [(j : Int)] = some (acc ++ [(j : Int)]) := by
        unfold appG
        rw [if_pos]
        show (acc.length + 1) * 8 ≤ _
        simp at hl
        omega
      simp only [h, if_true, ha, bind_some]
      rw [those_gen p h2 l (j + 1) (acc ++ [(j : Int)]) (by simp at hl ⊢; omega) hb']
      simp [ixs, h]
    · simp only [h, if_false, bind_some, Bool.false_eq_true]
      rw [those_gen p h2 l (j + 1) acc (by simp at hl ⊢; omega) hb']
      simp [ixs, h]
/-! ### The entry for a region -/
end Go.Proofs.XC
namespace Go.Proofs.XC
open Go Go.RowKit
/-! ### Lists of signs -/
/-- All of them. -/
theorem all_range {α : Type} {F : α → Option Bool} (p : α → Bool) (l : List α) (hF : ∀ x ∈ l, F x = some (p x)) {G : Unit → Option Bool} :
    orEl (rangeM (fun (j2 : Int) (x3 : α) (_ : Unit) => (Option.bind (F x3) fun v => (bif (!v) then some (.inr (Sum.inl false)) else some (.inl ())))) (fun _ => some (Sum.inr ())) l 0 ()) (fun r => some r) G = if l.all p then G () else some false := by
  have key : ∀ (l : List α) (j : Nat), (∀ x ∈ l, F x = some (p x)) → rangeM (fun (j2 : Int) (x3 : α) (_ : Unit) => (Option.bind (F x3) fun v => (bif (!v) then some (.inr (Sum.inl false)) else some (.inl ())))) (fun _ => some (Sum.inr ())) l j () = some (if l.all p then .inr () else .inl false) := by
    intro l
    induction l with
    | nil => intro j _; rfl
    | cons x l ih =>
      intro j hF
      rw [rangeM_cons, hF x List.mem_cons_self, bind_some]
      cases h : p x
      · simp [h, bind_some]
      · simp only [Bool.not_true, cond_false, bind_some, List.all_cons, h, Bool.true_and]
        exact ih (j + 1) fun y hy => hF y (List.mem_cons_of_mem _ hy)
  rw [key l 0 hF]
  cases l.all p <;> rfl
theorem s_noList_eq {k : Nat} {l : List Sign} (hs : ∀ x ∈ l, smallS x) (hk : 2000010 ≤ k) : X.s_noList k l = some (l.all gSign && decide (l.length ≤ 16)) := by
  unfold X.s_noList
  rw [all_range gSign l fun x hx => s_siGood_eq (hs x hx) hk]
  cases l.all gSign
  · rfl
  · simp
    omega
theorem contains_eq (l : List Sign) (F : Sign → Option Bool) (p : Sign → Bool) (hF : ∀ x ∈ l, F x = some (p x)) : X.slices_ContainsFunc_i_Sign_i_Sign l F = some (l.any p) := by
  unfold X.slices_ContainsFunc_i_Sign_i_Sign X.slices_IndexFunc_i_Sign_i_Sign
  exact anyF_eq p F l hF
theorem i_allOf_eq (l : List Sign) (F : Sign → Option Bool) (p : Sign → Bool) (hF : ∀ x ∈ l, F x = some (p x)) : X.i_allOf_i_Sign l F = some (l.all p) := by
  unfold X.i_allOf_i_Sign
  rw [contains_eq l _ (fun x => !(p x)) fun x hx => by unfold X.i_allOf_i_Sign_1; rw [hF x hx]; rfl]
  simp only [bind_some]
  congr 1
  rw [List.any_eq_not_all_not]
  simp
theorem i_areSigns_eq {k : Nat} {l : List Sign} {n : Int} (hs : ∀ x ∈ l, smallS x) (hk : 10 ≤ k) : X.i_areSigns k l n = some (decide ((l.length : Int) ≤ n) && l.all gSign) := by
  unfold X.i_areSigns
  rw [i_allOf_eq l _ gSign fun x hx => i_IsSign_eq (hs x hx) hk]
  cases decide ((l.length : Int) ≤ n) <;> rfl
/-! ### Texts of compounds -/
/-! ### Minimal pairs -/
end Go.Proofs.XC
