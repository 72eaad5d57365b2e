/- Plain laws of the plain functions: no program, no memory. By AI agents; no person has read it. -/
import Derived.Test.YtldkmmopfhhdgaaGreatDoorPZ5
set_option linter.unusedVariables false
set_option linter.unusedSimpArgs false
set_option maxRecDepth 100000
set_option maxHeartbeats 40000000
namespace Go.Proofs.XC
open Go Go.RowKit
/-! ### Distances -/
theorem ranNI {α σ ρ : Type} {body : Int → σ → Option (σ ⊕ ρ)} {fin : σ → Option ρ} {z : Int} {s0 : σ} (l : List α) (g : Nat → α → σ → σ ⊕ ρ) (f : σ → ρ) (inv : Nat → σ → Prop) (hz : z = (l.length : Int)) (hl : l.length ≤ 9223372036854775807) (hv : inv 0 s0)
    (h1 : ∀ (i : Nat) x s, l[i]? = some x → inv i s → body (i : Int) s = some (g i x s)) (h2 : ∀ s, inv l.length s → fin s = some (f s))
    (hi : ∀ (i : Nat) x s s', l[i]? = some x → inv i s → g i x s = .inl s' → inv (i + 1) s') : rangeN body fin z s0 = some (foldS g f l 0 s0) := by
  subst hz
  unfold rangeN
  rw [if_pos (by omega)]
  have key : ∀ (r : List α) (i : Nat) (s : σ), l.drop i = r → i ≤ l.length → inv i s → rangeM (fun j _ s => body j s) fin (List.range' i r.length) i s = some (foldS g f r i s) := by
    intro r
    induction r with
    | nil =>
      intro i s hd hi' hv
      have : l.length ≤ i := List.drop_eq_nil_iff.1 hd
      have hil : i = l.length := by omega
      subst hil
      simp [rangeM_nil, h2 s hv, foldS]
    | cons x r ih =>
      intro i s hd hi' hv
      have hlt : i < l.length := by
        rcases Nat.lt_or_ge i l.length with h | h
        · exact h
        · rw [List.drop_eq_nil_of_le h] at hd; cases hd
      have hx : l[i]? = some x := by
        have := congrArg (fun l => l[0]?) hd
        simpa using this
      have hd' : l.drop (i + 1) = r := by rw [← List.drop_drop (i := 1) (j := i), hd]; rfl
      rw [List.length_cons, List.range'_succ, rangeM_cons, h1 i x s hx hv, bind_some, foldS]
      cases hg : g i x s with
      | inl s' => exact ih (i + 1) s' hd' (by omega) (hi i x s s' hx hv hg)
      | inr q => rfl
  have := key l 0 s0 rfl (Nat.zero_le _) hv
  rw [← List.range_eq_range'] at this
  simpa using this
/-- A walk over a list that keeps something and always goes on. -/
theorem ranM_inv {α σ : Type} {body : Int → α → σ → Option (σ ⊕ σ)} (inv : Nat → σ → Prop) : ∀ (l : List α) (j : Nat) (s : σ), inv j s →
    (∀ (i : Nat) x s, l[i]? = some x → inv (j + i) s → ∃ s', body ((j + i : Nat) : Int) x s = some (.inl s') ∧ inv (j + i + 1) s') → ∃ s', rangeM body (fun s => some s) l j s = some s' ∧ inv (j + l.length) s'
  | [], j, s, hv, _ => ⟨s, rfl, by simpa using hv⟩
  | x :: l, j, s, hv, h1 => by
    obtain ⟨s', h, hv'⟩ := h1 0 x s rfl hv
    have h : body (j : Int) x s = some (.inl s') := h
    rw [rangeM_cons, h, bind_some]
    have := ranM_inv inv l (j + 1) s' hv' (fun i y s hy hv => by
      have := h1 (i + 1) y s hy (by rw [show j + (i + 1) = j + 1 + i by omega]; exact hv)
      rw [show j + (i + 1) = j + 1 + i by omega] at this
      exact this)
    rw [List.length_cons, show j + (l.length + 1) = j + 1 + l.length by omega]
    exact this
theorem foldS_ex {α σ : Type} {g : Nat → α → σ → σ ⊕ σ} (inv : Nat → σ → Prop) : ∀ (l : List α) (j : Nat) (s : σ), inv j s → (∀ (i : Nat) x s, l[i]? = some x → inv (j + i) s → ∃ s', g (j + i) x s = .inl s' ∧ inv (j + i + 1) s') → inv (j + l.length) (foldS g (fun s => s) l j s)
  | [], j, s, hv, _ => by simpa [foldS] using hv
  | x :: l, j, s, hv, h1 => by
    obtain ⟨s', h, hv'⟩ := h1 0 x s rfl hv
    have h : g j x s = .inl s' := h
    rw [foldS, h]
    have := foldS_ex inv l (j + 1) s' hv' (fun i y s hy hv => by
      have := h1 (i + 1) y s hy (by rw [show j + (i + 1) = j + 1 + i by omega]; exact hv)
      rw [show j + (i + 1) = j + 1 + i by omega] at this
      exact this)
    rw [List.length_cons, show j + (l.length + 1) = j + 1 + l.length by omega]
    exact this
def min3 (a b c : Int) : Int := if c < (if b < a then b else a) then c else (if b < a then b else a)
theorem min3_bd {a b c D : Int} (ha : 0 ≤ a) (hb : 0 ≤ b) (hc : 0 ≤ c) (h : a ≤ D) : 0 ≤ min3 a b c ∧ min3 a b c ≤ D := by
  unfold min3
  split <;> split <;> constructor <;> omega
/-- One step within a row: the corner, the row. -/
def levG (x : UInt8) (k : Nat) (y : UInt8) (s : Int × List Int) : (Int × List Int) ⊕ (List Int) :=
  .inl (s.2.getD (k + 1) 0, s.2.set (k + 1) (min3 (if x = y then s.1 else s.1 + 1) (s.2.getD k 0 + 1) (s.2.getD (k + 1) 0 + 1)))
def levRow (b : Str) (i : Nat) (x : UInt8) (r : List Int) : List Int ⊕ List Int :=
  .inl (foldS (levG x) (fun s => s.2) b 0 (r.getD 0 0, r.set 0 ((i : Int) + 1)))
def inRow (D : Int) (n : Nat) (k : Nat) (s : Int × List Int) : Prop := s.2.length = n + 1 ∧ (0 ≤ s.1 ∧ s.1 ≤ D + k) ∧ ∀ z ∈ s.2, 0 ≤ z ∧ z ≤ D + k
theorem getD_mem {l : List Int} {i : Nat} (h : i < l.length) : l.getD i 0 ∈ l := by
  rw [List.getD_eq_getElem?_getD, List.getElem?_eq_getElem h]
  exact List.getElem_mem h
theorem getI_getD {l : List Int} {i : Nat} (h : i < l.length) : getI l (i : Int) = some (l.getD i 0) := by
  refine getI_of ?_
  rw [List.getD_eq_getElem?_getD, List.getElem?_eq_getElem h]
  rfl
theorem inRow_step {D : Int} {n : Nat} {b : Str} (hb : b.length = n) (x : UInt8) {i : Nat} {y : UInt8} {s s' : Int × List Int} (hx : b[i]? = some y) (hv : inRow D n i s) (hg : levG x i y s = .inl s') : inRow D n (i + 1) s' := by
  have hlt := lt_get hx
  obtain ⟨h1, ⟨h2, h3⟩, h4⟩ := hv
  simp only [levG, Sum.inl.injEq] at hg
  subst hg
  have m1 := h4 _ (getD_mem (l := s.2) (i := i + 1) (by omega))
  have m0 := h4 _ (getD_mem (l := s.2) (i := i) (by omega))
  have hm := min3_bd (a := if x = y then s.1 else s.1 + 1) (b := s.2.getD i 0 + 1) (c := s.2.getD (i + 1) 0 + 1) (D := D + ((i + 1 : Nat) : Int)) (by split <;> omega) (by omega) (by omega) (by split <;> omega)
  refine ⟨by rw [List.length_set]; exact h1, ⟨m1.1, by omega⟩, fun z hz => ?_⟩
  rcases List.mem_or_eq_of_mem_set hz with hz | rfl
  · have := h4 z hz
    omega
  · exact hm
theorem foldS_inR {D : Int} {n : Nat} {b : Str} (hb : b.length = n) (x : UInt8) {s : Int × List Int} (hv : inRow D n 0 s) : (foldS (levG x) (fun s => s.2) b 0 s).length = n + 1 ∧ ∀ z ∈ foldS (levG x) (fun s => s.2) b 0 s, 0 ≤ z ∧ z ≤ D + n := by
  have key : ∀ (r : Str) (i : Nat) (s : Int × List Int), b.drop i = r → i ≤ b.length → inRow D n i s → (foldS (levG x) (fun s => s.2) r i s).length = n + 1 ∧ ∀ z ∈ foldS (levG x) (fun s => s.2) r i s, 0 ≤ z ∧ z ≤ D + n := by
    intro r
    induction r with
    | nil =>
      intro i s hd hi hv
      have : b.length ≤ i := List.drop_eq_nil_iff.1 hd
      have hil : i = n := by omega
      subst hil
      exact ⟨hv.1, hv.2.2⟩
    | cons y r ih =>
      intro i s hd hi hv
      have hlt : i < b.length := by
        rcases Nat.lt_or_ge i b.length with h | h
        · exact h
        · rw [List.drop_eq_nil_of_le h] at hd; cases hd
      have hx : b[i]? = some y := by
        have := congrArg (fun l => l[0]?) hd
        simpa using this
      have hd' : b.drop (i + 1) = r := by rw [← List.drop_drop (i := 1) (j := i), hd]; rfl
      rw [foldS]
      exact ih (i + 1) _ hd' (by omega) (inRow_step hb x hx hv rfl)
  exact key b 0 s rfl (Nat.zero_le _) hv
def inLev (n : Nat) (i : Nat) (r : List Int) : Prop := r.length = n + 1 ∧ ∀ z ∈ r, 0 ≤ z ∧ z ≤ 100 + (i : Int) * 100
theorem inLev_row {n i : Nat} {r : List Int} (hn : n ≤ 50) (hi : i ≤ 50) (h : inLev n i r) : inRow (150 + (i : Int) * 100) n 0 (r.getD 0 0, r.set 0 ((i : Int) + 1)) := by
  obtain ⟨h1, h2⟩ := h
  have h0 := h2 _ (getD_mem (l := r) (i := 0) (by omega))
  refine ⟨by simpa using h1, ⟨h0.1, by simp only; omega⟩, fun z hz => ?_⟩
  rcases List.mem_or_eq_of_mem_set hz with hz | rfl
  · have := h2 z hz
    omega
  · constructor <;> omega
theorem inLev_step {n i : Nat} {b : Str} {r r' : List Int} {x : UInt8} (hb : b.length = n) (hn : n ≤ 50) (hi : i ≤ 50) (h : inLev n i r) (hg : levRow b i x r = .inl r') : inLev n (i + 1) r' := by
  simp only [levRow, Sum.inl.injEq] at hg
  subst hg
  obtain ⟨h1, h2⟩ := foldS_inR hb x (inLev_row hn hi h)
  refine ⟨h1, fun z hz => ?_⟩
  have := h2 z hz
  rw [show (((i + 1 : Nat) : Int)) * 100 = (i : Int) * 100 + 100 by omega]
  omega
def row0 (n : Nat) : List Int := ((Option.bind (mkI (eI .i64) 0 (wr ((n : Int) + 1))) fun y => rangeM (ρ := List Int) (fun (j8 : Int) (x9 : Int) l1 => (Option.bind (getI l1 (j8 : Int)) fun y5_3 => some (.inl (List.set l1 (Int.toNat (j8 : Int)) (j8 : Int))))) (fun l1 => some l1) y 0 y)).getD []
theorem row0_eq {n : Nat} (hn : n ≤ 50) : mkI (eI .i64) 0 (wr ((n : Int) + 1)) = some (List.replicate (n + 1) 0) ∧ rangeM (ρ := List Int) (fun (j8 : Int) (x9 : Int) l1 => (Option.bind (getI l1 (j8 : Int)) fun y5_3 => some (.inl (List.set l1 (Int.toNat (j8 : Int)) (j8 : Int))))) (fun l1 => some l1) (List.replicate (n + 1) (0 : Int)) 0 (List.replicate (n + 1) (0 : Int)) = some (row0 n) ∧ inLev n 0 (row0 n) := by
  have hm : mkI (eI .i64) 0 (wr ((n : Int) + 1)) = some (List.replicate (n + 1) 0) := by
    rw [wr_suc (by omega)]
    unfold mkI
    have hb : (eI .i64).by_ = 8 := rfl
    rw [if_pos ⟨by omega, by rw [hb]; omega⟩]
    simp
  obtain ⟨r, hr, hi⟩ := ranM_inv (body := fun (j8 : Int) (x9 : Int) (l1 : List Int) => (Option.bind (getI l1 (j8 : Int)) fun y5_3 => some (.inl (List.set l1 (Int.toNat (j8 : Int)) (j8 : Int))))) (fun _ s => s.length = n + 1 ∧ ∀ z ∈ s, 0 ≤ z ∧ z ≤ 100) (List.replicate (n + 1) (0 : Int)) 0 (List.replicate (n + 1) (0 : Int)) ⟨by simp, fun z hz => by
      have := List.eq_of_mem_replicate hz
      omega⟩ (fun i x s hx hv => by
      have hlt := lt_get hx
      rw [List.length_replicate] at hlt
      rw [Nat.zero_add]
      refine ⟨s.set i (i : Int), by rw [getI_getD (by omega)]; simp [bind_some], by rw [List.length_set]; exact hv.1, fun z hz => ?_⟩
      rcases List.mem_or_eq_of_mem_set hz with hz | rfl
      · exact hv.2 z hz
      · constructor <;> omega)
  have e : row0 n = r := by unfold row0; rw [hm, bind_some, hr]; rfl
  rw [e]
  exact ⟨hm, hr, hi.1, fun z hz => by have := hi.2 z hz; omega⟩
def lev (a b : Str) : Int := (foldS (levRow b) (fun r => r) a 0 (row0 b.length)).getD b.length 0
theorem lev_fin {a b : Str} (ha : a.length ≤ 50) (hb : b.length ≤ 50) : inLev b.length a.length (foldS (levRow b) (fun r => r) a 0 (row0 b.length)) := by
  have := foldS_ex (g := levRow b) (inLev b.length) a 0 (row0 b.length) (row0_eq hb).2.2 (fun i x s hx hv => by
    rw [Nat.zero_add] at hv ⊢
    exact ⟨_, rfl, inLev_step rfl hb (by have := lt_get hx; omega) hv rfl⟩)
  simpa using this
theorem lev_bd {a b : Str} (ha : a.length ≤ 50) (hb : b.length ≤ 50) : 0 ≤ lev a b ∧ lev a b ≤ 10000 := by
  have h := lev_fin ha hb
  have := h.2 _ (getD_mem (l := foldS (levRow b) (fun r => r) a 0 (row0 b.length)) (i := b.length) (by rw [h.1]; omega))
  unfold lev
  omega
theorem ne_bytes (x y : UInt8) : ((x.toNat : Int) != (y.toNat : Int)) = !(decide (x = y)) := by
  have : ((x.toNat : Int) = (y.toNat : Int)) ↔ x = y := by
    constructor
    · intro h
      exact UInt8.toNat_inj.1 (by omega)
    · intro h
      rw [h]
  by_cases h : x = y <;> simp [bne, h, this]
theorem i_step_eq {a b : Str} (ha : a.length ≤ 50) (hb : b.length ≤ 50) : X.i_stepDistance a b = some (lev a b) := by
  unfold X.i_stepDistance
  obtain ⟨h1, h2, h3⟩ := row0_eq hb
  rw [h1, bind_some, h2, bind_some]
  rw [ranNI a (levRow b) (fun r => r) (inLev b.length) rfl (by omega) h3 ?_ (fun _ _ => rfl) ?_]
  · rw [bind_some, getI_getD (by rw [(lev_fin ha hb).1]; omega)]
    rfl
  · intro i x r hx hv
    have hil := lt_get hx
    rw [show (0 : Int) = ((0 : Nat) : Int) from rfl, getI_getD (by rw [hv.1]; omega), bind_some, wr_suc (by omega)]
    have hbd := inLev_row hb (show i ≤ 50 by omega) hv
    rw [ranNI b (levG x) (fun s => s.2) (inRow (150 + (i : Int) * 100) b.length) rfl (by omega) (by simpa using hbd) ?_ (fun _ _ => rfl) ?_]
    · simp only [bind_some, levRow]
      rfl
    · intro k y s hy hs
      have hk := lt_get hy
      obtain ⟨c, row⟩ := s
      obtain ⟨e1, ⟨e2, e3⟩, e4⟩ := hs
      simp only at e1 e2 e3 e4
      have m1 := e4 _ (getD_mem (l := row) (i := k + 1) (by omega))
      have m0 := e4 _ (getD_mem (l := row) (i := k) (by omega))
      have w1 : wr (row.getD (k + 1) 0 + 1) = row.getD (k + 1) 0 + 1 := wr_of (by omega) (by omega)
      have w0 : wr (row.getD k 0 + 1) = row.getD k 0 + 1 := wr_of (by omega) (by omega)
      have wc : wr (c + 1) = c + 1 := wr_of (by omega) (by omega)
      simp only [getB_of hx, getB_of hy, bind_some, ne_bytes, wr_suc (show k ≤ 4611686018427387904 by omega), getI_getD (l := row) (i := k + 1) (by omega), getI_getD (l := row) (i := k) (by omega), w1, w0, wc, levG, min3, Int.toNat_natCast]
      by_cases h : x = y <;> simp [h]
    · intro k y s s' hy hs hg
      exact inRow_step rfl x hy hs hg
  · intro i x s s' hx hv hg
    exact inLev_step rfl hb (by have := lt_get hx; omega) hv hg
theorem s_step_eq {k : Nat} {a b : Str} (ha : a.length ≤ 50) (hb : b.length ≤ 50) (hk : 100 ≤ k) : X.s_feSteps k a b = some (lev a b) := by
  unfold X.s_feSteps
  obtain ⟨h1, h2, h3⟩ := row0_eq hb
  rw [h1, bind_some, h2, bind_some]
  rw [forT (t0 := ((0 : Int), row0 b.length)) a (fun i s => ((i : Int), s)) (levRow b) (fun r => r) (inLev b.length) (row0 b.length) rfl h3 (by omega) ?_ ?_ ?_]
  · rw [bind_some, getI_getD (by rw [(lev_fin ha hb).1]; omega)]
    rfl
  · intro i x r hx hv
    have hil := lt_get hx
    simp only [dec_lt hx, cond_true]
    rw [show (0 : Int) = ((0 : Nat) : Int) from rfl, getI_getD (by rw [hv.1]; omega), bind_some, wr_suc (by omega)]
    have hbd := inLev_row hb (show i ≤ 50 by omega) hv
    rw [forT (t0 := (r.getD 0 0, ((0 : Nat) : Int), r.set (Int.toNat ((0 : Nat) : Int)) ((i + 1 : Nat) : Int))) b (fun k s => (s.1, (k : Int), s.2)) (levG x) (fun s => s.2) (inRow (150 + (i : Int) * 100) b.length) (r.getD 0 0, r.set 0 ((i : Int) + 1)) (by simp) hbd (by omega) ?_ ?_ ?_]
    · simp only [bind_some, levRow]
    · intro q y s hy hs
      have hk := lt_get hy
      obtain ⟨c, row⟩ := s
      obtain ⟨e1, ⟨e2, e3⟩, e4⟩ := hs
      simp only at e1 e2 e3 e4
      have m1 := e4 _ (getD_mem (l := row) (i := q + 1) (by omega))
      have m0 := e4 _ (getD_mem (l := row) (i := q) (by omega))
      have wc : wr (c + 1) = c + 1 := wr_of (by omega) (by omega)
      have hl : ∀ u v : Int, X.s_l1Least u v = some (if u < v then u else v) := by
        intro u v
        unfold X.s_l1Least
        by_cases h : u < v <;> simp [h]
      have wm : wr ((if row.getD q 0 < row.getD (q + 1) 0 then row.getD q 0 else row.getD (q + 1) 0) + 1) = (if row.getD q 0 < row.getD (q + 1) 0 then row.getD q 0 else row.getD (q + 1) 0) + 1 := wr_of (by split <;> omega) (by split <;> omega)
      have hmin : ∀ u : Int, (if u < (if row.getD q 0 < row.getD (q + 1) 0 then row.getD q 0 else row.getD (q + 1) 0) + 1 then u else (if row.getD q 0 < row.getD (q + 1) 0 then row.getD q 0 else row.getD (q + 1) 0) + 1) = min3 u (row.getD q 0 + 1) (row.getD (q + 1) 0 + 1) := by
        intro u
        unfold min3
        repeat' split
        all_goals omega
      simp only [dec_lt hy, cond_true, getB_of hx, getB_of hy, bind_some, ne_bytes, wr_suc (show q ≤ 4611686018427387904 by omega), getI_getD (l := row) (i := q + 1) (by omega), getI_getD (l := row) (i := q) (by omega), wc, hl, wm, hmin, levG, Int.toNat_natCast]
      by_cases h : x = y <;> simp [h]
    · intro s hs
      simp only [dec_end, cond_false]
    · intro q y s s' hy hs hg
      exact inRow_step rfl x hy hs hg
  · intro s hs
    simp only [dec_end, cond_false]
  · intro i x s s' hx hv hg
    exact inLev_step rfl hb (by have := lt_get hx; omega) hv hg
end Go.Proofs.XC
