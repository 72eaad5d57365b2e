/- Plain laws of the plain functions: no program, no memory. By AI agents; no person has read it. -/
import Derived.Test.YtldkmmopfhhdgaaGreatDoorPQ1
set_option linter.unusedVariables false
set_option linter.unusedSimpArgs false
set_option maxRecDepth 100000
set_option maxHeartbeats 40000000
namespace Go.Proofs.XC
open Go Go.RowKit
/-! ### Folds with an index; the loops that make them -/
def rng {α σ : Type} (g : Nat → α → σ → σ) : List α → Nat → σ → σ
  | [], _, s => s
  | x :: l, i, s => rng g l (i + 1) (g i x s)
theorem rng_map {α β σ : Type} (g : Nat → β → σ → σ) (h : α → β) : ∀ (l : List α) (j : Nat) (s : σ), rng g (l.map h) j s = rng (fun i x s => g i (h x) s) l j s
  | [], _, _ => rfl
  | x :: l, j, s => by rw [List.map_cons, rng, rng]; exact rng_map g h l (j + 1) _
theorem rng_range {α σ ρ : Type} {body : Int → α → σ → Option (σ ⊕ ρ)} {fin : σ → Option ρ} (g : Nat → α → σ → σ) (inv : Nat → σ → Prop) (L : List α)
    (h1 : ∀ i x s, L[i]? = some x → inv i s → body (i : Int) x s = some (.inl (g i x s)) ∧ inv (i + 1) (g i x s)) :
    ∀ (l : List α) (j : Nat) (s : σ), L.drop j = l → inv j s → rangeM body fin l j s = fin (rng g l j s) ∧ inv (j + l.length) (rng g l j s)
  | [], j, s, _, hv => ⟨rfl, hv⟩
  | x :: l, j, s, hd, hv => by
    have hx : L[j]? = some x := by
      have := congrArg (fun l => l[0]?) hd
      simpa using this
    have hd' : L.drop (j + 1) = l := by rw [← List.drop_drop (i := 1) (j := j), hd]; rfl
    obtain ⟨a, b⟩ := h1 j x s hx hv
    rw [rangeM_cons, a, bind_some, rng, List.length_cons, show j + (l.length + 1) = j + 1 + l.length by omega]
    exact rng_range g inv L h1 l (j + 1) _ hd' b
theorem rng_rangeM {α σ τ ρ : Type} (mk : σ → τ) {body : Int → α → τ → Option (τ ⊕ ρ)} {fin : τ → Option ρ} (g : Nat → α → σ → σ) (inv : Nat → σ → Prop) (L : List α)
    (h1 : ∀ i x s, L[i]? = some x → inv i s → body (i : Int) x (mk s) = some (.inl (mk (g i x s))) ∧ inv (i + 1) (g i x s)) :
    ∀ (l : List α) (j : Nat) (s : σ), L.drop j = l → inv j s → rangeM body fin l j (mk s) = fin (mk (rng g l j s)) ∧ inv (j + l.length) (rng g l j s)
  | [], j, s, _, hv => ⟨rfl, hv⟩
  | x :: l, j, s, hd, hv => by
    have hx : L[j]? = some x := by
      have := congrArg (fun l => l[0]?) hd
      simpa using this
    have hd' : L.drop (j + 1) = l := by rw [← List.drop_drop (i := 1) (j := j), hd]; rfl
    obtain ⟨a, b⟩ := h1 j x s hx hv
    rw [rangeM_cons, a, bind_some, rng, List.length_cons, show j + (l.length + 1) = j + 1 + l.length by omega]
    exact rng_rangeM mk g inv L h1 l (j + 1) _ hd' b
theorem rng_loop {α σ τ ρ : Type} {body : τ → Option (τ ⊕ ρ)} (mk : Nat → σ → τ) (fin : σ → ρ) (g : Nat → α → σ → σ) (inv : Nat → σ → Prop) (L : List α)
    (h1 : ∀ i x s, L[i]? = some x → inv i s → body (mk i s) = some (.inl (mk (i + 1) (g i x s))) ∧ inv (i + 1) (g i x s))
    (h2 : ∀ s, inv L.length s → body (mk L.length s) = some (.inr (fin s))) :
    ∀ (r : List α) (i fu : Nat) (s : σ), L.drop i = r → i ≤ L.length → inv i s → r.length < fu → loopM body fu (mk i s) = some (fin (rng g r i s)) ∧ inv L.length (rng g r i s) := by
  intro r
  induction r with
  | nil =>
    intro i fu s hd hl hv hf
    have hle : L.length ≤ i := List.drop_eq_nil_iff.1 hd
    have : i = L.length := by omega
    subst this
    obtain ⟨n, rfl⟩ : ∃ n, fu = n + 1 := ⟨fu - 1, by simp at hf; omega⟩
    rw [loopM_succ, h2 s hv]
    exact ⟨rfl, hv⟩
  | cons x r ih =>
    intro i fu s hd hl hv hf
    have hlt : i < L.length := by
      rcases Nat.lt_or_ge i L.length with h | h
      · exact h
      · rw [List.drop_eq_nil_of_le h] at hd; cases hd
    have hx : L[i]? = some x := by
      have := congrArg (fun l => l[0]?) hd
      simpa using this
    have hd' : L.drop (i + 1) = r := by rw [← List.drop_drop (i := 1) (j := i), hd]; rfl
    obtain ⟨n, rfl⟩ : ∃ n, fu = n + 1 := ⟨fu - 1, by omega⟩
    obtain ⟨a, b⟩ := h1 i x s hx hv
    rw [loopM_succ, a, bind_some, rng]
    exact ih (i + 1) n _ hd' (by omega) b (by simp at hf; omega)
theorem some_len {α : Type} {L : List α} {i : Nat} {x : α} (h : L[i]? = some x) : i < L.length := by
  rcases Nat.lt_or_ge i L.length with h1 | h1
  · exact h1
  · rw [List.getElem?_eq_none h1] at h; cases h
theorem mem_of {α : Type} {L : List α} {i : Nat} {x : α} (h : L[i]? = some x) : x ∈ L := List.mem_of_getElem? h
theorem drop_le {α : Type} (L : List α) (i : Nat) : (L.drop i).length ≤ L.length := by simp
theorem decL {i n : Nat} (h : i < n) : decide ((i : Int) < (n : Int)) = true := by simp; omega
theorem decE (n : Nat) : decide ((n : Int) < (n : Int)) = false := by simp
/-! ### The table of distances -/
def tab (l : List Sign) : List (List Int) := l.map fun x => l.map (farG x)
theorem tab_get {l : List Sign} {i : Nat} {x : Sign} (h : l[i]? = some x) : getI (tab l) (i : Int) = some (l.map (farG x)) := getI_of (by unfold tab; rw [List.getElem?_map, h]; rfl)
theorem row_get {l : List Sign} {i : Nat} {x y : Sign} (h : l[i]? = some x) : getI (l.map (farG y)) (i : Int) = some (farG y x) := getI_of (by rw [List.getElem?_map, h]; rfl)
theorem rng_app {α β : Type} (h : α → β) : ∀ (l : List α) (j : Nat) (acc : List β), rng (fun _ x acc => acc ++ [h x]) l j acc = acc ++ l.map h
  | [], _, acc => by simp [rng]
  | x :: l, j, acc => by rw [rng, rng_app h l]; simp
theorem appI {l : List Int} {x : Int} (h : l.length ≤ 1000000) : appG (eI .i64) l [x] = some (l ++ [x]) := by
  unfold appG
  have hby : (eI .i64).by_ = 8 := rfl
  rw [if_pos]
  rw [hby]
  simp only [List.length_cons, List.length_nil]
  omega
theorem appDD {l : List (List Int)} {x : List Int} (h : l.length ≤ 1000000) : appD l [x] = some (l ++ [x]) := by
  unfold appD
  rw [if_pos]
  simp only [List.length_cons, List.length_nil]
  omega
theorem i_Table_eq {k : Nat} {l : List Sign} (hs : ∀ s ∈ l, smallS s) (hk : 100 ≤ k) : X.i_DistanceTable k l = some (if l.all gSign && decide (l.length ≤ 20) then (tab l, true) else ([], false)) := by
  unfold X.i_DistanceTable
  rw [i_areSigns_eq hs (by omega), show ((20 : Int)) = ((20 : Nat) : Int) from rfl, len16]
  cases h1 : l.all gSign <;> cases h2 : decide (l.length ≤ 20) <;> simp only [Bool.true_and, Bool.false_and, Bool.and_true, Bool.and_false, Bool.and_self, Bool.not_true, Bool.not_false, cond_true, cond_false, bind_some, if_true, Bool.false_eq_true, if_false]
  have hg : ∀ s ∈ l, gSign s = true := by simpa using h1
  have hn : l.length ≤ 20 := by simpa using h2
  rw [(rng_range (fun (_ : Nat) x acc => acc ++ [l.map (farG x)]) (fun i acc => acc.length = i) l (fun i x acc hx hv => by
    rw [(rng_range (fun (_ : Nat) y acc => acc ++ [farG x y]) (fun i acc => acc.length = i) l (fun i y acc hy hv => by
      rw [(farG_eqs (hg x (mem_of hx)) (hg y (mem_of hy)) hk).1, bind_some, appI (by have := some_len hy; omega)]
      exact ⟨rfl, by simp [hv]⟩) l 0 [] rfl rfl).1, bind_some, rng_app, List.nil_append, appDD (by have := some_len hx; omega)]
    exact ⟨rfl, by simp [hv]⟩) l 0 [] rfl rfl).1, bind_some, rng_app, List.nil_append]
  rfl
theorem s_Table_eq {k : Nat} {l : List Sign} (hs : ∀ s ∈ l, smallS s) (hk : 2000010 ≤ k) : X.s_DistanceTable k l = some (if l.all gSign && decide (l.length ≤ 20) then (tab l, true) else ([], false)) := by
  unfold X.s_DistanceTable
  rw [s_paList_eq hs hk]
  cases h1 : l.all gSign <;> cases h2 : decide (l.length ≤ 20) <;> simp only [Bool.true_and, Bool.false_and, Bool.and_true, Bool.and_false, Bool.and_self, Bool.not_true, Bool.not_false, cond_true, cond_false, bind_some, if_true, Bool.false_eq_true, if_false]
  have hg : ∀ s ∈ l, gSign s = true := by simpa using h1
  have hn : l.length ≤ 20 := by simpa using h2
  rw [(rng_range (fun (_ : Nat) x acc => acc ++ [l.map (farG x)]) (fun i acc => acc.length = i) l (fun i x acc hx hv => by
    rw [(rng_range (fun (_ : Nat) y acc => acc ++ [farG x y]) (fun i acc => acc.length = i) l (fun i y acc hy hv => by
      rw [(farG_eqs (hg x (mem_of hx)) (hg y (mem_of hy)) (show 100 ≤ k by omega)).2.1, bind_some, appI (by have := some_len hy; omega)]
      exact ⟨rfl, by simp [hv]⟩) l 0 [] rfl rfl).1, bind_some, rng_app, List.nil_append, appDD (by have := some_len hx; omega)]
    exact ⟨rfl, by simp [hv]⟩) l 0 [] rfl rfl).1, bind_some, rng_app, List.nil_append]
  rfl
/-! #### The sign in the middle -/
def lessB (a b : Int) : Bool := decide (a < b)
def sumW (l : List Int) : Int := rng (fun _ x n => wr (n + x)) l 0 0
def fS (l : List Sign) (x : Sign) : Int := sumW (l.map (farG x))
theorem i_sumOf_eq (l : List Int) : X.i_sumOf l = some (sumW l) := by
  unfold X.i_sumOf sumW
  rw [(rng_range (fun (_ : Nat) x n => wr (n + x)) (fun _ _ => True) l (fun i x s _ _ => ⟨rfl, trivial⟩) l 0 0 rfl trivial).1]
  rfl
theorem arg_map {α β : Type} (c : Int → Int → Bool) (f : β → Int) (h : α → β) : ∀ (l : List α) (j : Nat) (s : Int × Int), arg c f (l.map h) j s = arg c (fun x => f (h x)) l j s
  | [], _, _ => rfl
  | x :: l, j, s => by rw [List.map_cons, arg, arg]; exact arg_map c f h l (j + 1) _
def mid (f : Sign → Int) (i : Nat) (x : Sign) (s : Int × Int) : Int × Int := if s.1 < 0 ∨ f x < s.2 then ((i : Int), f x) else s
theorem mid_arg (f : Sign → Int) : ∀ (l : List Sign) (j : Nat) (s : Int × Int), 0 ≤ s.1 → rng (mid f) l j s = arg lessB f l j s
  | [], _, _, _ => rfl
  | x :: l, j, s, h => by
    rw [rng, arg]
    unfold mid lessB
    by_cases hc : f x < s.2
    · rw [if_pos (Or.inr hc)]
      simp only [hc, decide_true, if_true]
      exact mid_arg f l (j + 1) _ (by simp)
    · rw [if_neg (by intro hh; rcases hh with hh | hh <;> omega)]
      simp only [hc, decide_false, Bool.false_eq_true, if_false]
      exact mid_arg f l (j + 1) _ h
def vMid (l : List Sign) : Int × Int × Bool := if l.all gSign && decide (l.length ≤ 20) && !(decide (l.length = 0)) then ((rng (mid (fS l)) l 0 (-1, 0)).1, (rng (mid (fS l)) l 0 (-1, 0)).2, true) else (0, 0, false)
theorem i_Mid_eq {k : Nat} {l : List Sign} (hs : ∀ s ∈ l, smallS s) (hk : 100 ≤ k) : X.i_MiddleSign k l = some (vMid l) := by
  unfold X.i_MiddleSign vMid
  rw [i_Table_eq hs hk, len0]
  cases l with
  | nil => rfl
  | cons y0 l' =>
  have h0 : decide ((y0 :: l').length = 0) = false := by simp
  rw [h0]
  cases h1 : (y0 :: l').all gSign <;> cases h2 : decide ((y0 :: l').length ≤ 20) <;> simp only [Bool.true_and, Bool.false_and, Bool.and_true, Bool.and_false, Bool.and_self, Bool.not_true, Bool.not_false, cond_true, cond_false, bind_some, if_true, Bool.false_eq_true, if_false]
  obtain ⟨b', y', hr, hb, ha⟩ := arg_impl (ρ := Int) lessB sumW (tab (y0 :: l')) (body := fun (j6 : Int) (x7 : (List Int)) n3 => (Option.bind (X.i_sumOf x7) fun v8_1 => (Option.bind (getI (tab (y0 :: l')) n3) fun y8_4 => (Option.bind (X.i_sumOf y8_4) fun v8_6 => (bif decide (v8_1 < v8_6) then some (.inl (j6 : Int)) else some (.inl n3)))))) (fin := fun n3 => some n3) (tab (y0 :: l')) 0 0 ((y0 :: l').map (farG y0)) rfl (tab_get rfl) (by
    intros
    rename_i hx hy
    first | rw [i_sumOf_eq, bind_some, hy, bind_some, i_sumOf_eq, bind_some] | rw [i_sumOf_eq, bind_some, hx, bind_some, i_sumOf_eq, bind_some]
    unfold lessB
    rename_i x b y
    cases decide (sumW x < sumW y) <;> rfl)
  rw [hr, bind_some, hb, bind_some, i_sumOf_eq, bind_some]
  have e1 : arg lessB sumW (tab (y0 :: l')) 0 (0, sumW ((y0 :: l').map (farG y0))) = rng (mid (fS (y0 :: l'))) (y0 :: l') 0 (-1, 0) := by
    unfold tab
    rw [arg_map, ← mid_arg _ _ _ _ (by simp), rng, rng]
    unfold mid fS
    simp
  rw [← e1, ha]
theorem s_Mid_eq {k : Nat} {l : List Sign} (hs : ∀ s ∈ l, smallS s) (hk : 2000010 ≤ k) : X.s_MiddleSign k l = some (vMid l) := by
  unfold X.s_MiddleSign vMid
  rw [s_paList_eq hs hk, len0]
  cases h0 : decide (l.length = 0) <;> cases h1 : l.all gSign <;> cases h2 : decide (l.length ≤ 20) <;> simp only [Bool.true_and, Bool.false_and, Bool.and_true, Bool.and_false, Bool.and_self, Bool.not_true, Bool.not_false, cond_true, cond_false, bind_some, if_true, Bool.false_eq_true, if_false]
  have hg : ∀ s ∈ l, gSign s = true := by simpa using h1
  rw [(rng_range (mid (fS l)) (fun _ _ => True) l (fun i x s hx _ => by
    refine ⟨?_, trivial⟩
    rw [(rng_range (fun (_ : Nat) y n => wr (n + farG x y)) (fun _ _ => True) l (fun i y n hy _ => by
      rw [(farG_eqs (hg x (mem_of hx)) (hg y (mem_of hy)) (show 100 ≤ k by omega)).2.1]
      exact ⟨rfl, trivial⟩) l 0 0 rfl trivial).1, bind_some]
    have e : rng (fun (_ : Nat) y n => wr (n + farG x y)) l 0 0 = fS l x := by unfold fS sumW; rw [rng_map]
    rw [e]
    unfold mid
    by_cases c1 : s.1 < 0 <;> by_cases c2 : fS l x < s.2 <;> simp [c1, c2]) l 0 (-1, 0) rfl trivial).1, bind_some]
/-! #### The pair farthest apart -/
def fpS {α : Type} (f : α → Int) (i k : Nat) (x : α) (s : Int × Int × Int) : Int × Int × Int := if f x > s.2.2 then ((i : Int), (k : Int), f x) else s
def fpP (l : List Sign) (s : Int × Int × Int) : Int × Int × Int := rng (fun i x s => rng (fun k y s => fpS (farG x) i k y s) (l.drop (i + 1)) (i + 1) s) l 0 s
def vFarPair (l : List Sign) : Int × Int × Int × Bool := if l.all gSign && decide (l.length ≤ 20) && !(decide ((l.length : Int) < 2)) then ((fpP l (0, 0, -1)).1, (fpP l (0, 0, -1)).2.1, (fpP l (0, 0, -1)).2.2, true) else (0, 0, 0, false)
theorem s_Far_eq {k : Nat} {l : List Sign} (hs : ∀ s ∈ l, smallS s) (hk : 2000010 ≤ k) : X.s_FarthestPair k l = some (vFarPair l) := by
  unfold X.s_FarthestPair vFarPair
  rw [s_paList_eq hs hk]
  cases h0 : decide ((l.length : Int) < 2) <;> cases h1 : l.all gSign <;> cases h2 : decide (l.length ≤ 20) <;> simp only [Bool.true_and, Bool.false_and, Bool.and_true, Bool.and_false, Bool.and_self, Bool.not_true, Bool.not_false, cond_true, cond_false, bind_some, if_true, Bool.false_eq_true, if_false]
  have hg : ∀ s ∈ l, gSign s = true := by simpa using h1
  have hn : l.length ≤ 20 := by simpa using h2
  rw [(rng_range (fun i x s => rng (fun k y s => fpS (farG x) i k y s) (l.drop (i + 1)) (i + 1) s) (fun _ _ => True) l (fun i x s hx _ => by
    refine ⟨?_, trivial⟩
    have hi := some_len hx
    obtain ⟨n3, n4, n5⟩ := s
    rw [show wr ((i : Int) + 1) = ((i + 1 : Nat) : Int) from wr_suc (by omega)]
    rw [(rng_loop (fun q (s : Int × Int × Int) => (s.1, s.2.1, s.2.2, (q : Int))) (fun s => (s.1, s.2.1, s.2.2)) (fun q y s => fpS (farG x) i q y s) (fun _ _ => True) l (fun q y s hy _ => by
      refine ⟨?_, trivial⟩
      have hq := some_len hy
      simp only [decL hq, cond_true, getI_of hy, bind_some, (farG_eqs (hg x (mem_of hx)) (hg y (mem_of hy)) (show 100 ≤ k by omega)).2.1, wr_suc (show q ≤ 4611686018427387904 by omega)]
      unfold fpS
      by_cases c : farG x y > s.2.2 <;> simp [c]) (fun s _ => by simp only [decE, cond_false]) (l.drop (i + 1)) (i + 1) k (n3, n4, n5) rfl (by omega) trivial (by have := drop_le l (i + 1); omega)).1]
    rfl) l 0 (0, 0, -1) rfl trivial).1]
  rfl
theorem i_Far_eq {k : Nat} {l : List Sign} (hs : ∀ s ∈ l, smallS s) (hk : 100 ≤ k) : X.i_FarthestPair k l = some (vFarPair l) := by
  unfold X.i_FarthestPair vFarPair
  rw [i_Table_eq hs hk]
  cases h0 : decide ((l.length : Int) < 2) <;> cases h1 : l.all gSign <;> cases h2 : decide (l.length ≤ 20) <;> simp only [Bool.true_and, Bool.false_and, Bool.and_true, Bool.and_false, Bool.and_self, Bool.not_true, Bool.not_false, cond_true, cond_false, bind_some, if_true, Bool.false_eq_true, if_false]
  have hg : ∀ s ∈ l, gSign s = true := by simpa using h1
  have hn : l.length ≤ 20 := by simpa using h2
  obtain ⟨x0, x1, l', rfl⟩ : ∃ x0 x1 l', l = x0 :: x1 :: l' := by
    match l, h0 with
    | [], h => simp at h
    | [_], h => simp at h
    | x0 :: x1 :: l', _ => exact ⟨x0, x1, l', rfl⟩
  generalize hL : x0 :: x1 :: l' = l at *
  have g0 : l[0]? = some x0 := by rw [← hL]; rfl
  have g1 : l[1]? = some x1 := by rw [← hL]; rfl
  have hT : ∀ (i : Nat) (r : List Int), (tab l)[i]? = some r → ∃ x, l[i]? = some x ∧ r = l.map (farG x) := by
    intro i r hr
    unfold tab at hr
    rw [List.getElem?_map] at hr
    cases hx : l[i]? with
    | none => rw [hx] at hr; cases hr
    | some x => rw [hx] at hr; exact ⟨x, rfl, (Option.some.inj hr).symm⟩
  let V : Int × Int × Int → Prop := fun s => ∃ r, getI (tab l) s.1 = some r ∧ getI r s.2.1 = some s.2.2
  have hi0 : V (0, 1, farG x0 x1) := ⟨_, tab_get g0, row_get g1⟩
  have key := (rng_rangeM (ρ := Int × Int) (fun s : Int × Int × Int => (s.1, s.2.1)) (body := fun (j8 : Int) (x9 : (List Int)) ⟨n3, n4⟩ => (Option.bind (loopM (fun ⟨n13, n14, n15⟩ => (bif decide (n15 < (List.length x9 : Int)) then (Option.bind (getI x9 n15) fun y11_2 => (Option.bind (getI (tab l) n13) fun y11_6 => (Option.bind (getI y11_6 n14) fun y11_9 => (bif decide (y11_2 > y11_9) then some (.inl ((j8 : Int), n15, (wr (n15 + 1)))) else some (.inl (n13, n14, (wr (n15 + 1)))))))) else some (.inr (n13, n14)))) k (n3, n4, (wr ((j8 : Int) + 1)))) fun ⟨n16, n17⟩ => some (.inl (n16, n17)))) (fin := fun ⟨n3, n4⟩ => some (n3, n4))
    (fun i r s => rng (fun k d s => fpS id i k d s) (r.drop (i + 1)) (i + 1) s) (fun _ s => V s) (tab l) (fun i r s hr hv => by
      obtain ⟨x, hx, rfl⟩ := hT i r hr
      have hi := some_len hx
      obtain ⟨n3, n4, n5⟩ := s
      have q := rng_loop (α := Int) (ρ := Int × Int) (body := fun (⟨n13, n14, n15⟩ : Int × Int × Int) => (bif decide (n15 < (List.length (l.map (farG x)) : Int)) then (Option.bind (getI (l.map (farG x)) n15) fun y11_2 => (Option.bind (getI (tab l) n13) fun y11_6 => (Option.bind (getI y11_6 n14) fun y11_9 => (bif decide (y11_2 > y11_9) then some (.inl ((i : Int), n15, (wr (n15 + 1)))) else some (.inl (n13, n14, (wr (n15 + 1)))))))) else some (.inr (n13, n14))))
        (fun q (s : Int × Int × Int) => (s.1, s.2.1, (q : Int))) (fun s => (s.1, s.2.1)) (fun q d s => fpS id i q d s) (fun _ s => V s) (l.map (farG x)) (fun q d s hd hv => by
          have hq := some_len hd
          obtain ⟨r, hr1, hr2⟩ := hv
          have hq' := hq
          rw [List.length_map] at hq'
          simp only [decL hq, cond_true, getI_of hd, bind_some, hr1, hr2, wr_suc (show q ≤ 4611686018427387904 by omega)]
          unfold fpS
          by_cases c : d > s.2.2
          · refine ⟨by simp [c], ?_⟩
            simp only [id, c, if_true]
            exact ⟨_, tab_get hx, getI_of hd⟩
          · refine ⟨by simp [c], ?_⟩
            simp only [id, c, if_false]
            exact ⟨r, hr1, hr2⟩) (fun s _ => by simp only [decE, cond_false]) ((l.map (farG x)).drop (i + 1)) (i + 1) k (n3, n4, n5) rfl (by rw [List.length_map]; omega) hv (by have := drop_le (l.map (farG x)) (i + 1); rw [List.length_map] at this; omega)
      refine ⟨?_, q.2⟩
      simp only
      rw [show wr ((i : Int) + 1) = ((i + 1 : Nat) : Int) from wr_suc (by omega)]
      rw [q.1]
      rfl) (tab l) 0 (0, 1, farG x0 x1) rfl hi0)
  have e1 : rng (fun i r s => rng (fun k d s => fpS id i k d s) (r.drop (i + 1)) (i + 1) s) (tab l) 0 (0, 1, farG x0 x1) = fpP l (0, 0, -1) := by
    unfold tab
    rw [rng_map]
    have e2 : (fun (i : Nat) (x : Sign) (s : Int × Int × Int) => rng (fun k d s => fpS id i k d s) ((l.map (farG x)).drop (i + 1)) (i + 1) s) = fun i x s => rng (fun k y s => fpS (farG x) i k y s) (l.drop (i + 1)) (i + 1) s := by
      funext i x s
      rw [← List.map_drop, rng_map]
      rfl
    rw [e2]
    have hp := (farG_eqs (hg x0 (mem_of g0)) (hg x1 (mem_of g1)) hk).2.2.1
    show fpP l (0, 1, farG x0 x1) = fpP l (0, 0, -1)
    have a1 : ∀ s, fpP (x0 :: x1 :: l') s = rng (fun i x s => rng (fun k y s => fpS (farG x) i k y s) ((x0 :: x1 :: l').drop (i + 1)) (i + 1) s) (x1 :: l') 1 (rng (fun k y s => fpS (farG x0) 0 k y s) l' 2 (fpS (farG x0) 0 1 x1 s)) := fun s => rfl
    have a2 : fpS (farG x0) 0 1 x1 (0, 1, farG x0 x1) = fpS (farG x0) 0 1 x1 (0, 0, -1) := by
      unfold fpS
      rw [if_neg (by simp), if_pos (by simp; omega)]
      rfl
    rw [← hL, a1, a1, a2]
  rw [e1] at key
  obtain ⟨key1, r, hr1, hr2⟩ := key
  have hk1 := key1
  simp only at hk1
  refine (congrArg (fun o => Option.bind o _) hk1).trans ?_
  simp only [bind_some, hr1, hr2]
end Go.Proofs.XC
