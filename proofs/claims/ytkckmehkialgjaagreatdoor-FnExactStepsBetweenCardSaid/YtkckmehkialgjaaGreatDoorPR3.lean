/- Plain laws of the plain functions: no program, no memory. By AI agents; no person has read it. -/
import Derived.Test.YtkckmehkialgjaaGreatDoorPR1
set_option linter.unusedVariables false
set_option linter.unusedSimpArgs false
set_option maxRecDepth 100000
set_option maxHeartbeats 40000000
namespace Go.Proofs.XC
open Go Go.RowKit
/-! ### Lists of pairs -/
def prsG (p : Sign → Sign → Bool) (L : List Sign) : List (List Int) := rng (fun i x acc => rng (fun k y acc => if p x y then acc ++ [[(i : Int), (k : Int)]] else acc) (L.drop (i + 1)) (i + 1) acc) L 0 []
theorem rng_inv {α σ : Type} (g : Nat → α → σ → σ) (I : Nat → σ → Prop) : ∀ (l : List α) (j : Nat) (s : σ), (∀ i x s, j ≤ i → i < j + l.length → I i s → I (i + 1) (g i x s)) → I j s → I (j + l.length) (rng g l j s)
  | [], j, s, _, h => h
  | x :: l, j, s, hs, h => by
    rw [rng, List.length_cons, show j + (l.length + 1) = j + 1 + l.length by omega]
    exact rng_inv g I l (j + 1) _ (fun i y s h1 h2 h3 => hs i y s (by omega) (by rw [List.length_cons]; omega) h3) (hs j x s (Nat.le_refl _) (by rw [List.length_cons]; omega) h)
theorem pairs_gen {p : Sign → Sign → Bool} {L : List Sign} {k : Nat} (hL : L.length ≤ 16) (hk : 100 ≤ k) {body : Nat → Sign → Int × List (List Int) → Option ((Int × List (List Int)) ⊕ List (List Int))}
    (h1 : ∀ i x (q : Nat) y acc, L[i]? = some x → L[q]? = some y → acc.length ≤ 1000 → body i x ((q : Int), acc) = some (.inl (((q + 1 : Nat) : Int), if p x y then acc ++ [[(i : Int), (q : Int)]] else acc)))
    (h2 : ∀ i x acc, body i x ((L.length : Int), acc) = some (.inr acc))
    {out : Int → Sign → List (List Int) → Option (List (List Int) ⊕ List (List Int))}
    (h3 : ∀ (i : Nat) x acc, out (i : Int) x acc = Option.bind (loopM (body i x) k ((wr ((i : Int) + 1)), acc)) fun l23 => some (.inl l23)) :
    rangeM out (fun l4 => some l4) L 0 [] = some (prsG p L) := by
  rw [(rng_range (fun i x acc => rng (fun k y acc => if p x y then acc ++ [[(i : Int), (k : Int)]] else acc) (L.drop (i + 1)) (i + 1) acc) (fun i acc => acc.length ≤ i * 16) L (fun i x acc hx hv => by
    have hi := some_len hx
    have q := rng_loop (body := body i x) (fun q acc => ((q : Int), acc)) (fun acc => acc) (fun q y acc => if p x y then acc ++ [[(i : Int), (q : Int)]] else acc) (fun q acc => acc.length ≤ i * 16 + q) L (fun q y acc hy hv => by
      refine ⟨h1 i x q y acc hx hy (by have := some_len hy; omega), ?_⟩
      split
      · rw [List.length_append, List.length_singleton]; omega
      · omega) (fun acc _ => h2 i x acc) (L.drop (i + 1)) (i + 1) k acc rfl (by omega) (by omega) (by have := drop_le L (i + 1); omega)
    refine ⟨?_, by have := q.2; omega⟩
    rw [h3, wr_suc (show i ≤ 4611686018427387904 by omega), q.1]
    rfl) L 0 [] rfl (by simp)).1]
  rfl
def pB (z : Int) (x y : Sign) : Bool := decide (apart (nS x) (nS y) = [z])
def pS (z : Int) (x y : Sign) : Bool := if z < 0 then pr x y else pB z x y
def vBy (l : List Sign) (z : Int) : List (List Int) × Bool := if l.all gSign && decide (l.length ≤ 16) && inR z 0 4 then (prsG (pB z) l, true) else ([], false)
theorem pS_pB {z : Int} (h : inR z 0 4 = true) : pS z = pB z := by
  funext x y
  rw [inR_iff] at h
  unfold pS
  rw [if_neg (by omega)]
def vMinimal (l : List Sign) : List (List Int) × Bool := if l.all gSign && decide (l.length ≤ 16) then (prsG pr l, true) else ([], false)
/-! #### How many pairs each part has -/
def loadL (l : List Sign) : List Int := rng (fun i (_ : Nat) acc => acc ++ [((prsG (pB (i : Int)) l).length : Int)]) [0, 1, 2, 3, 4] 0 []
def vLoad (l : List Sign) : List Int × Bool := if l.all gSign && decide (l.length ≤ 16) then (loadL l, true) else ([], false)
theorem load_gen {k : Nat} {l : List Sign} (hk : 100 ≤ k) {G : Int → Option (List (List Int))} (hG : ∀ z, inR z 0 4 = true → G z = some (prsG (pB z) l)) {body : Int × List Int → Option ((Int × List Int) ⊕ List Int)}
    (h : ∀ z acc, body (z, acc) = bif decide (z ≤ 4) then (Option.bind (G z) fun v => (Option.bind (appG (eI .i64) acc ([(List.length v : Int)] : List Int)) fun y8_4 => some (.inl ((wr (z + 1)), y8_4)))) else some (.inr acc)) :
    loopM body k (0, []) = some (loadL l) := by
  have q := rng_loop (body := body) (fun i acc => ((i : Int), acc)) (fun acc => acc) (fun i (_ : Nat) acc => acc ++ [((prsG (pB (i : Int)) l).length : Int)]) (fun i acc => acc.length = i) [0, 1, 2, 3, 4] (fun i x acc hx hv => by
    have hi := some_len hx
    simp only [List.length_cons, List.length_nil] at hi
    have d : decide ((i : Int) ≤ 4) = true := decide_eq_true (by omega)
    refine ⟨?_, by simp [hv]⟩
    rw [h, d, hG i (by rw [inR_iff]; omega), cond_true, bind_some, appI (by omega), bind_some, wr_suc (by omega)]) (fun acc _ => by rw [h]; rfl) [0, 1, 2, 3, 4] 0 k [] rfl (by simp) rfl (by simp only [List.length_cons, List.length_nil]; omega)
  exact q.1
theorem vLoad_len (l : List Sign) : (vLoad l).1.length ≤ 1048576 := by
  unfold vLoad
  split
  · simp [loadL, rng]
  · simp
end Go.Proofs.XC
