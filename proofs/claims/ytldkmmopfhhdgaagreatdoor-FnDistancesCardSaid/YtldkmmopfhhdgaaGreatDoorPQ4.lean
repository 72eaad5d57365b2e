/- Plain laws of the plain functions: no program, no memory. By AI agents; no person has read it. -/
import Derived.Test.YtldkmmopfhhdgaaGreatDoorPQ3
set_option linter.unusedVariables false
set_option linter.unusedSimpArgs false
set_option maxRecDepth 100000
set_option maxHeartbeats 40000000
namespace Go.Proofs.XC
open Go Go.RowKit
/-! ### Compounds -/
def cmpd (l : List Sign) : List Sign := (l.take (l.length - 1)).map redS ++ l.drop (l.length - 1)
theorem cmpd_len (l : List Sign) : (cmpd l).length = l.length := by
  unfold cmpd
  simp
theorem cmpd_good {l : List Sign} (hg : ∀ s ∈ l, gSign s = true) : ∀ s ∈ cmpd l, gSign s = true := by
  intro s hs
  unfold cmpd at hs
  rcases List.mem_append.1 hs with h | h
  · obtain ⟨x, hx, rfl⟩ := List.mem_map.1 h
    exact gSign_red (hg x (List.mem_of_mem_take hx))
  · exact hg s (List.mem_of_mem_drop h)
theorem mapG_cut (n : Nat) : ∀ (l : List Sign) (j : Nat), n = j + l.length → mapG (fun j x => if j + 1 < n then redS x else x) l j = (l.take (l.length - 1)).map redS ++ l.drop (l.length - 1)
  | [], j, _ => rfl
  | x :: l, j, h => by
    simp only [List.length_cons] at h
    rw [mapG]
    cases l with
    | nil =>
      simp only [List.length_nil] at h
      have : ¬ j + 1 < n := by omega
      simp [this, mapG]
    | cons y l =>
      have : j + 1 < n := by simp only [List.length_cons] at h; omega
      rw [if_pos this, mapG_cut n (y :: l) (j + 1) (by simp only [List.length_cons] at h ⊢; omega)]
      simp
theorem gMade_len {l : List Sign} (h : gMade l = true) : 2 ≤ l.length ∧ l.length ≤ 4 := by
  unfold gMade at h
  simp only [Bool.and_eq_true, decide_eq_true_eq] at h
  exact h.1
def vCmpd (l : List Sign) : List Sign × Bool := if gMade l then (cmpd l, true) else ([], false)
theorem vCmpd_len (l : List Sign) : (vCmpd l).1.length ≤ l.length := by
  unfold vCmpd
  split
  · simp only [cmpd_len]
    exact Nat.le_refl _
  · simp
/-! ### Compounds that are alike -/
theorem rangeTG {α β : Type} {body : Int → α → Unit → Option (Unit ⊕ (β ⊕ Unit))} {fin : Unit → Option (β ⊕ Unit)} (b : β) (p : Nat → α → Bool) (l : List α) (h1 : ∀ (i : Nat) x, l[i]? = some x → body (i : Int) x () = some (if p i x then .inl () else .inr (.inl b))) (h2 : fin () = some (.inr ())) {F : Unit → Option β} :
    orEl (rangeM body fin l 0 ()) (fun r => some r) F = if allIx p l 0 then F () else some b := by
  have h := ranM (body := body) (fin := fin) (fun i x (_ : Unit) => if p i x then Sum.inl () else Sum.inr (Sum.inl b)) (fun _ => Sum.inr ()) (fun _ _ => True) l 0 () trivial (fun i x s hx _ => by have := h1 i x hx; rw [Nat.zero_add]; exact this) (fun _ _ => h2) (fun _ _ _ _ _ _ _ => trivial)
  rw [h, foldS_test]
  cases allIx p l 0 <;> rfl
def pAl (b : List Sign) (i : Nat) (x : Sign) : Bool := match b[i]? with | some y => decide (nS x = nS y) | none => false
def alk (a b : List Sign) : Bool := decide (a.length = b.length) && allIx (pAl b) a 0
def vAlike (a b : List Sign) : Bool × Bool := if gMade a && gMade b then (alk (cmpd a) (cmpd b), true) else (false, false)
end Go.Proofs.XC
