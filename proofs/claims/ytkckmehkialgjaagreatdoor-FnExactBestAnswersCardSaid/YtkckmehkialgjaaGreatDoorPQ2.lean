/- Plain laws of the plain functions: no program, no memory. By AI agents; no person has read it. -/
import Derived.Test.YtkckmehkialgjaaGreatDoorPQ1
set_option linter.unusedVariables false
set_option linter.unusedSimpArgs false
set_option maxRecDepth 100000
set_option maxHeartbeats 40000000
namespace Go.Proofs.XC
open Go Go.RowKit
/-! ### The nearest sign, signs within a distance -/
def ltB (a b : Int) : Bool := decide (a < b)
def fN (s x : Sign) : Int := farG x s
def vNear (l : List Sign) (s : Sign) : Int × Int × Bool := if l.all gSign && decide (l.length ≤ 20) && gSign s then (match l with | [] => (0, 0, false) | y :: _ => ((arg ltB (fN s) l 0 (0, fN s y)).1, (arg ltB (fN s) l 0 (0, fN s y)).2, true)) else (0, 0, false)
def vWithin (l : List Sign) (s : Sign) (n : Int) : List Int × Bool := if l.all gSign && decide (l.length ≤ 20) && gSign s && inR n 0 100 then (ixs (fun x => decide (farG x s ≤ n)) l 0, true) else ([], false)
theorem vWithin_len (l : List Sign) (s : Sign) (n : Int) : (vWithin l s n).1.length ≤ l.length := by
  unfold vWithin
  split
  · exact ixs_len _ l 0
  · simp
/-! ### Signs that keep all constraints -/
theorem ixs_none {α : Type} (p : α → Bool) : ∀ (l : List α) (j : Nat), decide ((ixs p l j).length = 0) = !(l.any p)
  | [], j => by simp [ixs]
  | x :: l, j => by
    unfold ixs
    cases h : p x
    · simp only [Bool.false_eq_true, if_false, List.any_cons, h, Bool.false_or]
      exact ixs_none p l (j + 1)
    · simp [h]
/-! ### Distinct signs -/
def distF : List Sign → List Sign → List Sign
  | [], acc => acc
  | x :: l, acc => distF l (if nS x ∈ acc then acc else acc ++ [nS x])
theorem distF_len : ∀ (l acc : List Sign), (distF l acc).length ≤ acc.length + l.length
  | [], acc => by simp [distF]
  | x :: l, acc => by
    rw [distF]
    have := distF_len l (if nS x ∈ acc then acc else acc ++ [nS x])
    split at this
    · simp only [List.length_cons]
      rw [if_pos (by assumption)]
      omega
    · rw [if_neg (by assumption)]
      simp only [List.length_cons, List.length_append, List.length_nil] at this ⊢
      omega
theorem dist_gen {body : Int → Sign → List Sign → Option (List Sign ⊕ List Sign)} : ∀ (l acc : List Sign) (j : Nat), acc.length + l.length ≤ 1000000 → (∀ (i : Int) x acc, x ∈ l → body i x acc = if nS x ∈ acc then some (.inl acc) else Option.bind (appG nSign acc [nS x]) fun y => some (.inl y)) → rangeM body (fun l => some l) l j acc = some (distF l acc)
  | [], acc, j, _, _ => rfl
  | x :: l, acc, j, hl, hb => by
    simp only [List.length_cons] at hl
    have ha : appG nSign acc [nS x] = some (acc ++ [nS x]) := by
      unfold appG
      have hby : nSign.by_ = 232 := rfl
      rw [if_pos]
      rw [hby]
      simp only [List.length_cons, List.length_nil]
      omega
    rw [rangeM_cons, hb _ x acc List.mem_cons_self, distF]
    by_cases h : nS x ∈ acc
    · simp only [h, if_true, bind_some]
      exact dist_gen l acc (j + 1) (by omega) fun i y a hy => hb i y a (List.mem_cons_of_mem _ hy)
    · simp only [h, if_false, ha, bind_some]
      exact dist_gen l _ (j + 1) (by simp; omega) fun i y a hy => hb i y a (List.mem_cons_of_mem _ hy)
theorem noFind_eq (l : List Sign) (x : Sign) : ∃ z, X.s_noFind l x = some z ∧ decide (z < 0) = !(decide (x ∈ l)) := by
  unfold X.s_noFind
  have e : rangeM (fun (j2 : Int) (x3 : Sign) (_ : Unit) => (bif (qSign x3 x) then some (.inr (Sum.inl j2)) else some (.inl ()))) (fun _ => some (Sum.inr ())) l 0 () = some (match l.findIdx? (fun y => decide (y = x)) with | some i => Sum.inl ((0 + i : Nat) : Int) | none => Sum.inr ()) := by
    refine Eq.trans ?_ (find_eq (fun y => decide (y = x)) (fun y => some (decide (y = x))) l 0 (fun _ _ => rfl))
    congr 1
    funext j y u
    rw [qSign_iff]
    rfl
  rw [e]
  cases hf : l.findIdx? fun y => decide (y = x) with
  | none =>
    rw [List.findIdx?_eq_none_iff] at hf
    have : x ∉ l := fun h => by have := hf x h; simp at this
    exact ⟨-1, rfl, by simp [this]⟩
  | some i =>
    obtain ⟨h1, h2, _⟩ := List.findIdx?_eq_some_iff_getElem.1 hf
    have : x ∈ l := by
      have e : l[i] = x := by simpa using h2
      rw [← e]
      exact List.getElem_mem h1
    exact ⟨((0 + i : Nat) : Int), rfl, by simp [this]⟩
def vDist (l : List Sign) : List Sign × Bool := if l.all gSign && decide (l.length ≤ 16) then (distF l [], true) else ([], false)
theorem vDist_len (l : List Sign) : (vDist l).1.length ≤ l.length := by
  unfold vDist
  split
  · have := distF_len l []
    simpa using this
  · simp
end Go.Proofs.XC
