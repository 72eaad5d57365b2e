/- Plain laws of the plain functions: no program, no memory. By AI agents; no person has read it. -/
import Derived.Test.YtjjhlccjfdcfcaaGreatDoorPM2
set_option linter.unusedVariables false
set_option linter.unusedSimpArgs false
set_option maxRecDepth 100000
set_option maxHeartbeats 40000000
namespace Go.Proofs.XC
open Go Go.RowKit
/-! ### Places, parsed -/
def plc (n : Nat) : Place := ⟨((n / 6 : Nat) : Int), ((n % 6 / 2 : Nat) : Int) - 1, decide (n % 2 = 1)⟩
theorem code_eq : ∀ n : Fin 60, X.i_PlaceOfCode ((n.1 : Nat) : Int) = some (if gPlace (plc n.1) then (plc n.1, true) else (zPlace, false)) := by decide +kernel
def pf (s : Str) : Nat → Nat → (Place × Bool) ⊕ Unit
  | n, 0 => .inr ()
  | n, j + 1 => if gPlace (plc n) = true ∧ tPlace (plc n) = s then .inl (plc n, true) else pf s (n + 1) j
theorem pf_loop (s : Str) : ∀ (j n K : Nat), n + j = 60 → j < K →
    loopM (fun (n1 : Int) => (bif decide (n1 < 60) then (Option.bind (X.i_PlaceOfCode n1) fun v4_1 => (bif v4_1.2 then (Option.bind (X.i_Place_text v4_1.1) fun v5_3 => (bif (seq v5_3 s) then some (Sum.inr (Sum.inl (v4_1.1, true))) else some (Sum.inl (wr (n1 + 1))))) else some (Sum.inl (wr (n1 + 1))))) else some (Sum.inr (Sum.inr ())))) K (n : Int) = some (pf s n j)
  | 0, n, K, h, hK => by
    obtain ⟨m, rfl⟩ : ∃ m, K = m + 1 := ⟨K - 1, by omega⟩
    rw [loopM_succ, decide_eq_false (by omega)]
    rfl
  | j + 1, n, K, h, hK => by
    obtain ⟨m, rfl⟩ : ∃ m, K = m + 1 := ⟨K - 1, by omega⟩
    have hc := code_eq ⟨n, by omega⟩
    dsimp only at hc
    rw [loopM_succ, decide_eq_true (show (n : Int) < 60 by omega), cond_true, hc, bind_some, pf]
    have ih := pf_loop s j (n + 1) m (by omega) (by omega)
    by_cases hg : gPlace (plc n) = true
    · rw [if_pos hg]
      simp only [cond_true]
      rw [(place_eqs hg).1, bind_some, seq_eq]
      by_cases ht : tPlace (plc n) = s
      · rw [if_pos ⟨hg, ht⟩, decide_eq_true ht]
        rfl
      · rw [if_neg (fun h => ht h.2), decide_eq_false ht, cond_false, bind_some]
        dsimp only
        rw [wr_suc (by omega)]
        exact ih
    · rw [if_neg hg, if_neg (fun h => hg h.1)]
      simp only [cond_false, bind_some]
      rw [wr_suc (by omega)]
      exact ih
theorem pf_inl {s : Str} {r : Place × Bool} : ∀ (j n : Nat), pf s n j = .inl r → r.2 = true ∧ gPlace r.1 = true ∧ tPlace r.1 = s
  | 0, n, h => by cases h
  | j + 1, n, h => by
    rw [pf] at h
    by_cases hc : gPlace (plc n) = true ∧ tPlace (plc n) = s
    · rw [if_pos hc] at h
      injection h with h
      subst h
      exact ⟨rfl, hc⟩
    · rw [if_neg hc] at h
      exact pf_inl j (n + 1) h
theorem pf_inr {s : Str} : ∀ (j n : Nat), pf s n j = .inr () → ∀ m, n ≤ m → m < n + j → ¬ (gPlace (plc m) = true ∧ tPlace (plc m) = s)
  | 0, n, h, m, h1, h2 => by omega
  | j + 1, n, h, m, h1, h2 => by
    rw [pf] at h
    by_cases hc : gPlace (plc n) = true ∧ tPlace (plc n) = s
    · rw [if_pos hc] at h
      cases h
    · rw [if_neg hc] at h
      by_cases hm : m = n
      · subst hm; exact hc
      · exact pf_inr j (n + 1) h m (by omega) (by omega)
theorem plc_of {p : Place} (g : gPlace p = true) : ∃ m, m < 60 ∧ plc m = p := by
  have h := gPlace_iff.1 g
  refine ⟨6 * p.Region.toNat + 2 * (p.Side + 1).toNat + (if p.Contact then 1 else 0), by split <;> omega, ?_⟩
  obtain ⟨r, sd, c⟩ := p
  dsimp only at h ⊢
  unfold plc
  obtain ⟨⟨h1, h2⟩, ⟨h3, h4⟩, _⟩ := h
  cases c
  · simp only [Bool.false_eq_true, if_false, Place.mk.injEq]
    refine ⟨by omega, by omega, by simp; omega⟩
  · simp only [if_true, Place.mk.injEq]
    refine ⟨by omega, by omega, by simp; omega⟩
/-- The good place whose text it is, if there is one. -/
def RPl (s : Str) (r : Place × Bool) : Prop := (r.2 = true ∧ gPlace r.1 = true ∧ tPlace r.1 = s) ∨ (r = (zPlace, false) ∧ ∀ p, gPlace p = true → tPlace p ≠ s)
theorem RPl.uniq {s : Str} {r r' : Place × Bool} (h : RPl s r) (h' : RPl s r') : r = r' := by
  rcases h with ⟨a1, a2, a3⟩ | ⟨rfl, a⟩
  · rcases h' with ⟨b1, b2, b3⟩ | ⟨rfl, b⟩
    · obtain ⟨p, q⟩ := r
      obtain ⟨p', q'⟩ := r'
      dsimp only at a1 a2 a3 b1 b2 b3
      rw [a1, b1, tPlace_inj a2 b2 (a3.trans b3.symm)]
    · exact absurd a3 (b _ a2)
  · rcases h' with ⟨b1, b2, b3⟩ | ⟨rfl, b⟩
    · exact absurd b3 (a _ b2)
    · rfl
theorem i_place (k : Nat) (s : Str) : ∃ r, X.i_ParsePlace (k + 61) s = some r ∧ RPl s r := by
  unfold X.i_ParsePlace
  have := pf_loop s 60 0 (k + 61) rfl (by omega)
  rw [show (((0 : Nat) : Int)) = 0 from rfl] at this
  rw [this]
  cases hp : pf s 0 60 with
  | inl r => exact ⟨r, rfl, .inl (pf_inl 60 0 hp)⟩
  | inr u =>
    refine ⟨_, rfl, .inr ⟨rfl, fun p g ht => ?_⟩⟩
    obtain ⟨m, hm, rfl⟩ := plc_of g
    exact pf_inr 60 0 hp m (by omega) (by omega) ⟨g, ht⟩
def plL : List Place := (X.s_plAll 20).getD []
theorem plAll_L (k : Nat) : X.s_plAll (k + 20) = some plL := by kernel_rfl
theorem plL_good : ∀ p ∈ plL, gPlace p = true := by decide +kernel
theorem plL_all : ∀ (r : Fin 10) (s : Fin 3) (c : Bool), gPlace ⟨(r.1 : Int), (s.1 : Int) - 1, c⟩ = true → (⟨(r.1 : Int), (s.1 : Int) - 1, c⟩ : Place) ∈ plL := by decide +kernel
theorem plL_of {p : Place} (g : gPlace p = true) : p ∈ plL := by
  have h := gPlace_iff.1 g
  obtain ⟨r, sd, c⟩ := p
  dsimp only at h
  have := plL_all ⟨r.toNat, by omega⟩ ⟨(sd + 1).toNat, by omega⟩ c
  dsimp only at this
  rw [show ((r.toNat : Nat) : Int) = r by omega, show (((sd + 1).toNat : Nat) : Int) - 1 = sd by omega] at this
  exact this g
theorem pl_find (s : Str) : ∀ (l : List Place) (j : Nat), (∀ p ∈ l, gPlace p = true) →
    rangeM (fun (j2 : Int) (x3 : Place) (_ : Unit) => (Option.bind (X.s_plText x3) fun v4_1 => (bif (seq v4_1 s) then some (Sum.inr (Sum.inl (x3, true))) else some (Sum.inl ())))) (fun _ => some (Sum.inr ())) l j () = some (match l.find? (fun p => decide (tPlace p = s)) with | some p => Sum.inl (p, true) | none => Sum.inr ())
  | [], j, _ => rfl
  | x :: l, j, h => by
    rw [rangeM_cons, (place_eqs (h x List.mem_cons_self)).2, bind_some, seq_eq, List.find?_cons]
    cases hd : decide (tPlace x = s)
    · simp only [cond_false, bind_some]
      exact pl_find s l (j + 1) fun p hp => h p (List.mem_cons_of_mem _ hp)
    · rfl
theorem s_place (k : Nat) (s : Str) : ∃ r, X.s_plParse (k + 20) s = some r ∧ RPl s r := by
  unfold X.s_plParse
  rw [plAll_L, bind_some, pl_find s plL 0 plL_good]
  cases hf : plL.find? (fun p => decide (tPlace p = s)) with
  | some p =>
    refine ⟨(p, true), rfl, .inl ⟨rfl, plL_good p (List.mem_of_find?_eq_some hf), ?_⟩⟩
    have := List.find?_some hf
    simpa using this
  | none =>
    refine ⟨(zPlace, false), rfl, .inr ⟨rfl, fun p g ht => ?_⟩⟩
    have := List.find?_eq_none.1 hf p (plL_of g)
    simp [ht] at this
theorem places (k : Nat) (s : Str) : ∃ r, X.i_ParsePlace (k + 61) s = some r ∧ X.s_plParse (k + 61) s = some r ∧ (r.2 = true → gPlace r.1 = true) := by
  obtain ⟨r, h1, h2⟩ := i_place k s
  obtain ⟨r', h3, h4⟩ := s_place (k + 41) s
  have := h2.uniq h4
  subst this
  refine ⟨r, h1, h3, fun h => ?_⟩
  rcases h2 with h2 | ⟨rfl, _⟩
  · exact h2.2.1
  · cases h
end Go.Proofs.XC
