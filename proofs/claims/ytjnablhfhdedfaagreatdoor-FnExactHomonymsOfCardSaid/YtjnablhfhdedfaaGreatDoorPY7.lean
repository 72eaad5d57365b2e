/- Plain laws of the plain functions: no program, no memory. By AI agents; no person has read it. -/
import Derived.Test.YtjnablhfhdedfaaGreatDoorPY6
set_option linter.unusedVariables false
set_option linter.unusedSimpArgs false
set_option maxRecDepth 100000
set_option maxHeartbeats 40000000
namespace Go.Proofs.XC
open Go Go.RowKit
/-! ### Reduced movements -/
def isRoot (s : Str) (n : Nat) : Bool := decide (s.length % n = 0) && decide (Lib.repeatL (s.take n) (s.length / n) = s)
def rootF (s : Str) : Nat → Nat → Str
  | _, 0 => s
  | n, d + 1 => if isRoot s n then s.take n else rootF s (n + 1) d
def root (s : Str) : Str := rootF s 1 (s.length - 1)
theorem modI_nat {a b : Nat} (h : 0 < b) : modI (a : Int) (b : Int) = some ((a % b : Nat) : Int) := by
  unfold modI
  rw [if_neg (by omega)]
  congr 1
theorem divI_nat {a b : Nat} (h : 0 < b) (ha : a ≤ 1000000) : divI (a : Int) (b : Int) = some ((a / b : Nat) : Int) := by
  unfold divI
  rw [if_neg (by omega)]
  congr 1
  have : a / b ≤ a := Nat.div_le_self a b
  show wr ((a / b : Nat) : Int) = _
  generalize a / b = q at this
  exact wr_of (by omega) (by omega)
theorem nat_zero (n : Nat) : ((n : Int) == 0) = decide (n = 0) := by
  rw [beq_dec]
  rw [Bool.eq_iff_iff]
  simp
theorem div_le_of {a b : Nat} (h : 0 < b) : a / b ≤ a := Nat.div_le_self a b
/-- A sign, its movements reduced. -/
def redS (s : Sign) : Sign := if s.Two then ⟨{ s.Main with Move := ⟨root (allSteps s.Main.Move), 1⟩ }, s.Two, { s.Other with Move := ⟨root (allSteps s.Other.Move), 1⟩ }⟩ else { s with Main := { s.Main with Move := ⟨root (allSteps s.Main.Move), 1⟩ } }
/-! ### The parts of a compound -/
theorem indexS_eq (l : List Sign) (F : Sign → Option Bool) (p : Sign → Bool) (hF : ∀ x ∈ l, F x = some (p x)) : X.slices_IndexFunc_i_Sign_i_Sign l F = some (fst_ p l 0 (-1)) := by
  unfold X.slices_IndexFunc_i_Sign_i_Sign
  have key : ∀ (l : List Sign) (j : Nat), (∀ x ∈ l, F x = some (p x)) → orEl (rangeM (fun (j2 : Int) (x3 : Sign) (_ : Unit) => (Option.bind (F x3) fun v4_5 => (bif v4_5 then some (.inr (.inl (j2 : Int))) else some (.inl ())))) (fun _ => some (.inr ())) l j ()) (fun r => some r) (fun (_ : Unit) => some (-1)) = some (fst_ p l j (-1)) := by
    intro l
    induction l with
    | nil => intro j _; rfl
    | cons x l ih =>
      intro j hF
      rw [rangeM_cons, hF x List.mem_cons_self, bind_some]
      unfold fst_
      cases h : p x
      · simp only [cond_false, bind_some, Bool.false_eq_true, if_false]
        exact ih (j + 1) fun y hy => hF y (List.mem_cons_of_mem _ hy)
      · rfl
  exact key l 0 hF
/-- The first one, looked for by a walk through all. -/
theorem firstOf {α : Type} {body : Int → α → Int → Option (Int ⊕ Int)} (p : α → Bool) : ∀ (l : List α) (j : Nat) (n : Int), (n = -1 ∨ 0 ≤ n) → (∀ (i : Nat) x (n : Int), l[i]? = some x → body ((j + i : Nat) : Int) x n = some (.inl (if n < 0 then (if p x then ((j + i : Nat) : Int) else n) else n))) →
    rangeM body (fun n => some n) l j n = some (if n < 0 then fst_ p l j (-1) else n)
  | [], j, n, hn, _ => by
    rw [rangeM_nil]
    rcases hn with rfl | hn
    · rfl
    · have : ¬ n < 0 := by omega
      simp [this]
  | x :: l, j, n, hn, hb => by
    have h0 := hb 0 x n rfl
    have hb' : ∀ (i : Nat) y (n : Int), l[i]? = some y → body ((j + 1 + i : Nat) : Int) y n = some (.inl (if n < 0 then (if p y then ((j + 1 + i : Nat) : Int) else n) else n)) := fun i y n hy => by
      have := hb (i + 1) y n (by simpa using hy)
      rw [show j + (i + 1) = j + 1 + i by omega] at this
      exact this
    simp only [Nat.add_zero] at h0
    rw [rangeM_cons, h0, bind_some]
    by_cases hneg : n < 0
    · have hn1 : n = -1 := by omega
      subst hn1
      by_cases hp : p x = true
      · simp only [hp, if_true, fst_]
        refine (firstOf p l (j + 1) (j : Int) (.inr (by omega)) hb').trans ?_
        have : ¬ (j : Int) < 0 := by omega
        simp [this]
      · simp only [hp, if_false, fst_, if_true, Bool.false_eq_true]
        refine (firstOf p l (j + 1) (-1) (.inl rfl) hb').trans ?_
        rfl
    · simp only [hneg, if_false]
      refine (firstOf p l (j + 1) n hn hb').trans ?_
      simp [hneg]
theorem rangeM_congr {α σ ρ : Type} {b1 b2 : Int → α → σ → Option (σ ⊕ ρ)} {fin : σ → Option ρ} : ∀ (l : List α) (j : Nat) (s : σ), (∀ (i : Nat) x s, l[i]? = some x → b1 ((j + i : Nat) : Int) x s = b2 ((j + i : Nat) : Int) x s) → rangeM b1 fin l j s = rangeM b2 fin l j s
  | [], _, _, _ => rfl
  | x :: l, j, s, h => by
    have h0 := h 0 x s rfl
    simp only [Nat.add_zero] at h0
    rw [rangeM_cons, rangeM_cons, h0]
    congr 1
    funext o
    cases o with
    | inr r => rfl
    | inl s' =>
      exact rangeM_congr l (j + 1) s' fun i y s hy => by
        have := h (i + 1) y s (by simpa using hy)
        rw [show j + (i + 1) = j + 1 + i by omega] at this
        exact this
def pPart (n : Nat) (j : Int) (x y : Sign) : Bool := if j + 1 < (n : Int) then decide (redS y = x) else decide (y = x)
def bPart (lex : List Sign) (n : Nat) (j : Int) (x : Sign) (l3 : List Int) : Option (List Int ⊕ ((List Int × Bool) ⊕ List Int)) :=
  if fst_ (pPart n j x) lex 0 (-1) < 0 then some (.inr (.inl ([], false))) else Option.bind (appG (eI .i64) l3 [fst_ (pPart n j x) lex 0 (-1)]) fun y => some (.inl y)
def vParts (lex l : List Sign) : Option (List Int × Bool) := if lex.all gSign && decide (lex.length ≤ 20) && gMade l then orEl (rangeM (bPart lex l.length) (fun l3 => some (.inr l3)) l 0 []) (fun r => some r) (fun l6 => some (l6, true)) else some ([], false)
theorem vParts_some (lex l : List Sign) : ∃ v, vParts lex l = some v ∧ v.1.length ≤ 1048576 := by
  unfold vParts
  cases h : (lex.all gSign && decide (lex.length ≤ 20) && gMade l)
  · exact ⟨([], false), rfl, by simp⟩
  · have hlen : l.length ≤ 4 := by
      simp only [Bool.and_eq_true] at h
      have := h.2
      unfold gMade at this
      simp at this
      omega
    simp only [if_true]
    have gen : ∀ (r : List Sign) (j : Nat) (acc : List Int), acc.length + r.length ≤ 100 → ∃ v, orEl (rangeM (bPart lex l.length) (fun l3 => some (.inr l3)) r j acc) (fun r => some r) (fun l6 => some (l6, true)) = some v ∧ v.1.length ≤ 1048576 := by
      intro r
      induction r with
      | nil => intro j acc h; exact ⟨(acc, true), rfl, by simp at h ⊢; omega⟩
      | cons x r ih =>
        intro j acc h
        rw [rangeM_cons]
        unfold bPart
        by_cases hf : fst_ (pPart l.length (j : Int) x) lex 0 (-1) < 0
        · simp only [hf, if_true, bind_some]
          exact ⟨([], false), rfl, by simp⟩
        · have ha : appG (eI .i64) acc [fst_ (pPart l.length (j : Int) x) lex 0 (-1)] = some (acc ++ [fst_ (pPart l.length (j : Int) x) lex 0 (-1)]) := by
            unfold appG
            rw [if_pos]
            show (acc.length + 1) * 8 ≤ _
            simp at h
            omega
          simp only [hf, if_false, ha, bind_some]
          exact ih (j + 1) _ (by simp at h ⊢; omega)
    exact gen l 0 [] (by simp; omega)
end Go.Proofs.XC
