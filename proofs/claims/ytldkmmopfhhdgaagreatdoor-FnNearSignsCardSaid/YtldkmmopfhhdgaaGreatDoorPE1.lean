/- Plain laws of the plain functions: no program, no memory. By AI agents; no person has read it. -/
import Derived.Test.YtldkmmopfhhdgaaGreatDoorPZ7
set_option linter.unusedVariables false
set_option linter.unusedSimpArgs false
set_option maxRecDepth 100000
set_option maxHeartbeats 40000000
namespace Go.Proofs.XC
open Go Go.RowKit
/-! ### The distance of two texts, by recursion -/
def ed : Str → Str → Int
  | [], y => (y.length : Int)
  | _ :: x, [] => (x.length : Int) + 1
  | c :: x, d :: y => min3 (if c = d then ed x y else ed x y + 1) (ed (c :: x) y + 1) (ed x (d :: y) + 1)
termination_by x y => x.length + y.length
theorem ed_nil (y : Str) : ed [] y = (y.length : Int) := by rw [ed]
theorem ed_nil2 (x : Str) : ed x [] = (x.length : Int) := by
  cases x with
  | nil => rw [ed]
  | cons c x => rw [ed]; simp
theorem ed_cons (c d : UInt8) (x y : Str) : ed (c :: x) (d :: y) = min3 (if c = d then ed x y else ed x y + 1) (ed (c :: x) y + 1) (ed x (d :: y) + 1) := by rw [ed]
theorem min3_comm (a b c : Int) : min3 a b c = min3 a c b := by
  unfold min3
  (repeat' split) <;> omega
theorem ed_comm : ∀ (n : Nat) (x y : Str), x.length + y.length ≤ n → ed x y = ed y x
  | n, [], y, _ => by rw [ed_nil, ed_nil2]
  | n, c :: x, [], _ => by rw [ed_nil2, ed_nil]
  | 0, c :: x, d :: y, h => by simp at h
  | n + 1, c :: x, d :: y, h => by
    simp only [List.length_cons] at h
    rw [ed_cons, ed_cons, min3_comm, ed_comm n x y (by omega), ed_comm n (c :: x) y (by simp only [List.length_cons]; omega), ed_comm n x (d :: y) (by simp only [List.length_cons]; omega)]
    by_cases e : c = d
    · subst e; rfl
    · rw [if_neg e, if_neg fun h => e h.symm]
theorem min3_ge {a b c z : Int} (h1 : z ≤ a) (h2 : z ≤ b) (h3 : z ≤ c) : z ≤ min3 a b c := by
  unfold min3
  split <;> split <;> omega
theorem min3_le (a b c : Int) : min3 a b c ≤ a := by
  unfold min3
  split <;> split <;> omega
theorem ed_ge : ∀ (n : Nat) (x y : Str), x.length + y.length ≤ n → (x.length : Int) - y.length ≤ ed x y ∧ (y.length : Int) - x.length ≤ ed x y ∧ 0 ≤ ed x y
  | n, [], y, _ => by rw [ed_nil]; simp <;> omega
  | n, c :: x, [], _ => by rw [ed_nil2]; simp <;> omega
  | 0, c :: x, d :: y, h => by simp at h
  | n + 1, c :: x, d :: y, h => by
    simp only [List.length_cons] at h
    have h1 := ed_ge n x y (by omega)
    have h2 := ed_ge n (c :: x) y (by simp only [List.length_cons]; omega)
    have h3 := ed_ge n x (d :: y) (by simp only [List.length_cons]; omega)
    simp only [List.length_cons] at h2 h3 ⊢
    rw [ed_cons]
    refine ⟨min3_ge ?_ ?_ ?_, min3_ge ?_ ?_ ?_, min3_ge ?_ ?_ ?_⟩ <;> first | omega | (split <;> omega)
theorem ed_self : ∀ x : Str, ed x x = 0
  | [] => by rw [ed_nil]; rfl
  | c :: x => by
    have h1 := min3_le (if c = c then ed x x else ed x x + 1) (ed (c :: x) x + 1) (ed x (c :: x) + 1)
    rw [if_pos rfl, ed_self x] at h1
    have h2 := (ed_ge _ (c :: x) (c :: x) (Nat.le_refl _)).2.2
    rw [ed_cons, if_pos rfl, ed_self x] at h2 ⊢
    omega
theorem ed_zero : ∀ (x y : Str), ed x y = 0 → x = y
  | [], y, h => by
    rw [ed_nil] at h
    exact (List.eq_nil_of_length_eq_zero (by omega)).symm
  | c :: x, [], h => by
    rw [ed_nil2] at h
    simp at h
    omega
  | c :: x, d :: y, h => by
    have h1 := (ed_ge _ x y (Nat.le_refl _)).2.2
    have h2 := (ed_ge _ (c :: x) y (Nat.le_refl _)).2.2
    have h3 := (ed_ge _ x (d :: y) (Nat.le_refl _)).2.2
    rw [ed_cons] at h
    by_cases e : c = d
    · rw [if_pos e] at h
      have : ed x y = 0 := by
        unfold min3 at h
        split at h <;> split at h <;> omega
      rw [e, ed_zero x y this]
    · rw [if_neg e] at h
      exfalso
      unfold min3 at h
      split at h <;> split at h <;> omega
/-! #### The rows tell it -/
theorem take_rev {b : Str} {k : Nat} {y : UInt8} (h : b[k]? = some y) : (b.take (k + 1)).reverse = y :: (b.take k).reverse := by
  obtain ⟨hk, he⟩ := List.getElem?_eq_some_iff.1 h
  rw [List.take_succ_eq_append_getElem hk, List.reverse_append, he]
  rfl
theorem getD_set_eq {l : List Int} {i : Nat} {v : Int} (h : i < l.length) : (l.set i v).getD i 0 = v := by
  rw [List.getD_eq_getElem?_getD, List.getElem?_set_self h]
  rfl
theorem getD_set_ne {l : List Int} {i j : Nat} {v : Int} (h : i ≠ j) : (l.set i v).getD j 0 = l.getD j 0 := by
  rw [List.getD_eq_getElem?_getD, List.getElem?_set_ne h, ← List.getD_eq_getElem?_getD]
def eIn (b : Str) (x : UInt8) (A : Str) (k : Nat) (s : Int × List Int) : Prop :=
  s.1 = ed A (b.take k).reverse ∧ s.2.length = b.length + 1 ∧ (∀ j, j ≤ k → s.2.getD j 0 = ed (x :: A) (b.take j).reverse) ∧ ∀ j, k < j → j ≤ b.length → s.2.getD j 0 = ed A (b.take j).reverse
theorem eIn_step {b : Str} {x y : UInt8} {A : Str} {k : Nat} {s : Int × List Int} (hy : b[k]? = some y) (h : eIn b x A k s) : eIn b x A (k + 1) (s.2.getD (k + 1) 0, s.2.set (k + 1) (min3 (if x = y then s.1 else s.1 + 1) (s.2.getD k 0 + 1) (s.2.getD (k + 1) 0 + 1))) := by
  obtain ⟨h1, h2, h3, h4⟩ := h
  have hk := (List.getElem?_eq_some_iff.1 hy).1
  have hup := h4 (k + 1) (by omega) (by omega)
  have hleft := h3 k (Nat.le_refl _)
  refine ⟨hup, by simpa using h2, fun j hj => ?_, fun j hj hb => ?_⟩
  · by_cases e : j = k + 1
    · subst e
      rw [getD_set_eq (by omega), hup, hleft, h1, take_rev hy, ed_cons]
    · rw [getD_set_ne (Ne.symm e)]
      exact h3 j (by omega)
  · rw [getD_set_ne (by omega)]
    exact h4 j (by omega) hb
theorem eIn_fold {b : Str} {x : UInt8} {A : Str} : ∀ (r : Str) (k : Nat) (s : Int × List Int), b.drop k = r → k ≤ b.length → eIn b x A k s →
    (foldS (levG x) (fun s => s.2) r k s).length = b.length + 1 ∧ ∀ j, j ≤ b.length → (foldS (levG x) (fun s => s.2) r k s).getD j 0 = ed (x :: A) (b.take j).reverse := by
  intro r
  induction r with
  | nil =>
    intro k s hd hk h
    have : b.length ≤ k := List.drop_eq_nil_iff.1 hd
    have hkl : k = b.length := by omega
    subst hkl
    exact ⟨h.2.1, fun j hj => h.2.2.1 j hj⟩
  | cons y r ih =>
    intro k s hd hk h
    have hlt : k < b.length := by
      rcases Nat.lt_or_ge k b.length with h | h
      · exact h
      · rw [List.drop_eq_nil_of_le h] at hd; cases hd
    have hx : b[k]? = some y := by
      have := congrArg (fun l => l[0]?) hd
      simpa using this
    have hd' : b.drop (k + 1) = r := by rw [← List.drop_drop (i := 1) (j := k), hd]; rfl
    rw [foldS]
    exact ih (k + 1) _ hd' (by omega) (eIn_step hx h)
def eRow (b : Str) (A : Str) (r : List Int) : Prop := r.length = b.length + 1 ∧ ∀ j, j ≤ b.length → r.getD j 0 = ed A (b.take j).reverse
theorem eRow_step {b : Str} {x : UInt8} {A : Str} {r : List Int} {i : Nat} (hA : A.length = i) (h : eRow b A r) : eRow b (x :: A) (foldS (levG x) (fun s => s.2) b 0 (r.getD 0 0, r.set 0 ((i : Int) + 1))) := by
  obtain ⟨h1, h2⟩ := h
  refine eIn_fold b 0 _ rfl (Nat.zero_le _) ⟨h2 0 (Nat.zero_le _), by simpa using h1, fun j hj => ?_, fun j hj hb => ?_⟩
  · obtain rfl : j = 0 := by omega
    show (r.set 0 ((i : Int) + 1)).getD 0 0 = _
    rw [getD_set_eq (by omega), List.take_zero, List.reverse_nil, ed_nil2, List.length_cons, hA]
    omega
  · show (r.set 0 ((i : Int) + 1)).getD j 0 = _
    rw [getD_set_ne (by omega)]
    exact h2 j hb
theorem eRow_fold {a b : Str} : ∀ (r : Str) (k : Nat) (s : List Int), a.drop k = r → k ≤ a.length → eRow b (a.take k).reverse s → eRow b a.reverse (foldS (levRow b) (fun r => r) r k s) := by
  intro r
  induction r with
  | nil =>
    intro k s hd hk h
    have : a.length ≤ k := List.drop_eq_nil_iff.1 hd
    have hkl : k = a.length := by omega
    subst hkl
    rw [List.take_length] at h
    exact h
  | cons y r ih =>
    intro k s hd hk h
    have hlt : k < a.length := by
      rcases Nat.lt_or_ge k a.length with h | h
      · exact h
      · rw [List.drop_eq_nil_of_le h] at hd; cases hd
    have hx : a[k]? = some y := by
      have := congrArg (fun l => l[0]?) hd
      simpa using this
    have hd' : a.drop (k + 1) = r := by rw [← List.drop_drop (i := 1) (j := k), hd]; rfl
    rw [foldS]
    refine ih (k + 1) _ hd' (by omega) ?_
    rw [take_rev hx]
    exact eRow_step (by rw [List.length_reverse, List.length_take]; omega) h
theorem row0_get {n : Nat} (hn : n ≤ 50) : (row0 n).length = n + 1 ∧ ∀ j, j ≤ n → (row0 n).getD j 0 = (j : Int) := by
  obtain ⟨hm, _, _⟩ := row0_eq hn
  obtain ⟨r, hr, hi⟩ := ranM_inv (body := fun (j8 : Int) (x9 : Int) (l1 : List Int) => (Option.bind (getI l1 (j8 : Int)) fun y5_3 => some (.inl (List.set l1 (Int.toNat (j8 : Int)) (j8 : Int))))) (fun i s => s.length = n + 1 ∧ ∀ j, j < i → s.getD j 0 = (j : Int)) (List.replicate (n + 1) (0 : Int)) 0 (List.replicate (n + 1) 0) ⟨by simp, by omega⟩ (fun i x s hx hv => by
      have hlt := lt_get hx
      rw [List.length_replicate] at hlt
      rw [Nat.zero_add] at hv ⊢
      refine ⟨s.set i (i : Int), by rw [getI_getD (by omega)]; simp [bind_some], by rw [List.length_set]; exact hv.1, fun j hj => ?_⟩
      by_cases e : j = i
      · subst e
        exact getD_set_eq (by omega)
      · rw [getD_set_ne (Ne.symm e)]
        exact hv.2 j (by omega))
  have e : row0 n = r := by unfold row0; rw [hm, bind_some, hr]; rfl
  rw [e]
  simp only [List.length_replicate, Nat.zero_add] at hi
  exact ⟨hi.1, fun j hj => hi.2 j (by omega)⟩
theorem lev_ed {a b : Str} (hb : b.length ≤ 50) : lev a b = ed a.reverse b.reverse := by
  have h := eRow_fold (b := b) a 0 (row0 b.length) rfl (Nat.zero_le _) (by
    obtain ⟨h1, h2⟩ := row0_get hb
    refine ⟨h1, fun j hj => ?_⟩
    rw [h2 j hj, List.take_zero, List.reverse_nil, ed_nil, List.length_reverse, List.length_take, Nat.min_eq_left hj])
  have := h.2 b.length (Nat.le_refl _)
  rw [List.take_length] at this
  exact this
theorem lev_comm {a b : Str} (ha : a.length ≤ 50) (hb : b.length ≤ 50) : lev a b = lev b a := by rw [lev_ed hb, lev_ed ha, ed_comm _ _ _ (Nat.le_refl _)]
theorem lev_zero {a b : Str} (hb : b.length ≤ 50) : lev a b = 0 ↔ a = b := by
  rw [lev_ed hb]
  constructor
  · intro h
    have := congrArg List.reverse (ed_zero _ _ h)
    simpa using this
  · intro h
    rw [h]
    exact ed_self _
theorem lev_ge {a b : Str} (hb : b.length ≤ 50) : (a.length : Int) - b.length ≤ lev a b ∧ (b.length : Int) - a.length ≤ lev a b ∧ 0 ≤ lev a b := by
  rw [lev_ed hb]
  have := ed_ge _ a.reverse b.reverse (Nat.le_refl _)
  simpa using this
end Go.Proofs.XC
