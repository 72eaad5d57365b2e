/- Plain laws of the plain functions: no program, no memory. By AI agents; no person has read it. -/
import Derived.Test.YtjnablhfhdedfaaGreatDoorPX1
set_option linter.unusedVariables false
set_option linter.unusedSimpArgs false
set_option maxRecDepth 100000
set_option maxHeartbeats 40000000
namespace Go.Proofs.XC
open Go Go.RowKit
theorem getB_ge {s : Str} {i : Nat} (h : s.length ≤ i) : getB s (i : Int) = none := by
  unfold getB getI
  rw [if_pos (by omega)]
  simp [h]
/-- A range over 0 .. length. -/
theorem ranN {α σ ρ : Type} {body : Int → σ → Option (σ ⊕ ρ)} {fin : σ → Option ρ} {z : Int} {s0 : σ} (l : List α) (g : Nat → α → σ → σ ⊕ ρ) (f : σ → ρ) (hz : z = (l.length : Int)) (hl : l.length ≤ 9223372036854775807)
    (h1 : ∀ (i : Nat) x s, l[i]? = some x → body (i : Int) s = some (g i x s)) (h2 : ∀ s, fin s = some (f s)) : rangeN body fin z s0 = some (foldS g f l 0 s0) := by
  subst hz
  unfold rangeN
  rw [if_pos (by omega)]
  have key : ∀ (r : List α) (i : Nat) (s : σ), l.drop i = r → i ≤ l.length → rangeM (fun j _ s => body j s) fin (List.range' i r.length) i s = some (foldS g f r i s) := by
    intro r
    induction r with
    | nil => intro i s _ _; simp [rangeM_nil, h2, foldS]
    | cons x r ih =>
      intro i s hd hi
      have hlt : i < l.length := by
        rcases Nat.lt_or_ge i l.length with h | h
        · exact h
        · rw [List.drop_eq_nil_of_le h] at hd; cases hd
      have hx : l[i]? = some x := by
        have := congrArg (fun l => l[0]?) hd
        simpa using this
      have hd' : l.drop (i + 1) = r := by rw [← List.drop_drop (i := 1) (j := i), hd]; rfl
      rw [List.length_cons, List.range'_succ, rangeM_cons, h1 i x s hx, bind_some, foldS]
      cases hg : g i x s with
      | inl s' => exact ih (i + 1) s' hd' (by omega)
      | inr q => rfl
  have := key l 0 s0 rfl (Nat.zero_le _)
  rw [← List.range_eq_range'] at this
  simpa using this
theorem ranM {α σ ρ : Type} {body : Int → α → σ → Option (σ ⊕ ρ)} {fin : σ → Option ρ} (g : Nat → α → σ → σ ⊕ ρ) (f : σ → ρ) (inv : Nat → σ → Prop) : ∀ (l : List α) (j : Nat) (s : σ), inv j s →
    (∀ (i : Nat) x s, l[i]? = some x → inv (j + i) s → body ((j + i : Nat) : Int) x s = some (g (j + i) x s)) → (∀ s, inv (j + l.length) s → fin s = some (f s)) →
    (∀ i x s s', l[i]? = some x → inv (j + i) s → g (j + i) x s = .inl s' → inv (j + i + 1) s') → rangeM body fin l j s = some (foldS g f l j s)
  | [], j, s, hv, _, h2, _ => by
    rw [rangeM_nil, h2 s (by simpa using hv)]
    rfl
  | x :: l, j, s, hv, h1, h2, hi => by
    have h0 : body (j : Int) x s = some (g j x s) := h1 0 x s rfl hv
    rw [rangeM_cons, h0, bind_some, foldS]
    cases hg : g j x s with
    | inr q => rfl
    | inl s' =>
      exact ranM g f inv l (j + 1) s' (hi 0 x s s' rfl hv hg)
        (fun i y s hy hv => by have := h1 (i + 1) y s hy (by rw [show j + (i + 1) = j + 1 + i by omega]; exact hv); rw [show j + (i + 1) = j + 1 + i by omega] at this; exact this)
        (fun s hv => h2 s (by rw [List.length_cons, show j + (l.length + 1) = j + 1 + l.length by omega]; exact hv))
        (fun i y s s' hy hv hg => by have := hi (i + 1) y s s' hy (by rw [show j + (i + 1) = j + 1 + i by omega]; exact hv) (by rw [show j + (i + 1) = j + 1 + i by omega]; exact hg); rw [show j + (i + 1) = j + 1 + i by omega] at this; exact this)
theorem indexByte_dirs (b : UInt8) : decide (Lib.indexByte dirs (((b.toNat : Int)).toNat).toUInt8 < 0) = !(isDir b) := by
  have e : (((b.toNat : Int)).toNat).toUInt8 = b := by
    rw [Int.toNat_natCast]
    exact UInt8.ofNat_toNat
  rw [e]
  cases hd : isDir b with
  | true => rcases isDir_cases hd with h | h | h | h | h | h <;> subst h <;> rfl
  | false =>
    have hn : ∀ c : UInt8, isDir c = true → (c == b) = false := fun c hc => by
      rw [beq_eq_false_iff_ne]
      intro e
      rw [← e, hc] at hd
      cases hd
    simp [dirs, Lib.indexByte, hn 117 rfl, hn 100 rfl, hn 108 rfl, hn 114 rfl, hn 102 rfl, hn 98 rfl]
theorem hasDirs_eq (s : Str) (hl : s.length ≤ 2000000) : X.i_hasOnly s [117, 100, 108, 114, 102, 98] = some (s.all isDir) := by
  unfold X.i_hasOnly
  rw [ranN s (fun _ x (_ : Unit) => if isDir x then Sum.inl () else Sum.inr (Sum.inl false)) (fun _ => Sum.inr ()) rfl (by omega) ?_ (fun _ => rfl), foldS_all]
  · cases s.all isDir <;> rfl
  · intro i x _ hx
    rw [getB_of hx, bind_some]
    unfold X.strings_IndexByte
    rw [bind_some]
    have := indexByte_dirs x
    unfold dirs at this
    rw [this]
    cases isDir x <;> rfl
theorem i_IsMove_eq (m : Move) (hl : m.Steps.length ≤ 2000000) : X.i_IsMove m = some (gMove m) := by
  unfold X.i_IsMove gMove
  simp only [hasDirs_eq m.Steps hl, bind_some, i_within_eq, seq_nil]
  have hd : decide ((m.Steps.length : Int) ≤ 6) = decide (m.Steps.length ≤ 6) := by
    rw [Bool.eq_iff_iff]; simp; omega
  rw [hd]
  cases decide (m.Steps.length ≤ 6)
  · rfl
  cases m.Steps.all isDir
  · rfl
  cases inR m.Repeat 1 3
  · rfl
  cases m.Steps.isEmpty <;> rfl
def gHand (h : Hand) : Bool := gShape h.Shape && (gOrient h.Orient && (gPlace h.Place && gMove h.Move))
def small (h : Hand) : Prop := h.Move.Steps.length ≤ 2000000
theorem i_IsHand_eq (h : Hand) (hl : small h) : X.i_IsHand h = some (gHand h) := by
  unfold X.i_IsHand gHand
  simp only [i_IsShape_eq, i_IsOrient_eq, i_IsPlace_eq, i_IsMove_eq _ hl, bind_some]
  cases gShape h.Shape <;> cases gOrient h.Orient <;> cases gPlace h.Place <;> rfl
theorem s_siHand_eq (k : Nat) (h : Hand) (hl : small h) (hk : 2000010 ≤ k) : X.s_siHand k h = some (gHand h) := by
  obtain ⟨q, rfl⟩ : ∃ q, k = q + 4 := ⟨k - 4, by omega⟩
  unfold X.s_siHand gHand
  simp only [s_shGood_eq, s_orGood_eq, s_plGood_eq, s_mvGood_eq _ _ hl hk, bind_some]
  cases gShape h.Shape <;> cases gOrient h.Orient <;> cases gPlace h.Place <;> rfl

/-! ### All steps -/
def allSteps (m : Move) : Str := Lib.repeatL m.Steps m.Repeat.toNat
theorem gMove_iff {m : Move} : gMove m = true ↔ m.Steps.length ≤ 6 ∧ m.Steps.all isDir = true ∧ (1 ≤ m.Repeat ∧ m.Repeat ≤ 3) ∧ (m.Steps ≠ [] ∨ m.Repeat = 1) := by
  unfold gMove
  simp [inR]
theorem repeat_eq {s : Str} {n : Int} (h1 : 0 ≤ n) (h2 : n ≤ 2000000) (hs : s.length ≤ 2000000) : X.strings_Repeat s n = some (Lib.repeatL s n.toNat) := by
  unfold X.strings_Repeat
  have hb : s.length * n.toNat ≤ 2000000 * 2000000 := Nat.mul_le_mul hs (by omega)
  rw [if_pos ⟨h1, by omega, by omega⟩]
theorem i_Move_all_eq {m : Move} (h : gMove m = true) : X.i_Move_all m = some (allSteps m) := by
  rw [gMove_iff] at h
  unfold X.i_Move_all
  rw [repeat_eq (by omega) (by omega) (by omega)]
  first | done | rfl
theorem repeatL_comm (s : Str) : ∀ n, Lib.repeatL s n ++ s = s ++ Lib.repeatL s n
  | 0 => by simp [Lib.repeatL]
  | n + 1 => by rw [Lib.repeatL, List.append_assoc, repeatL_comm s n]
theorem s_mvTimes_eq {s : Str} (hs : s.length ≤ 2000000) : ∀ (n k : Nat), n ≤ 2000000 → n < k → X.s_mvTimes k s (n : Int) = some (Lib.repeatL s n) := by
  intro n k hn hk
  unfold X.s_mvTimes
  have key : ∀ (j i k : Nat), i + j = n → j < k → loopM (fun (⟨n1, t2⟩ : Int × Str) => (bif decide (n1 > 0) then (Option.bind (catS t2 s) fun y4_2 => some (.inl ((wr (n1 - 1)), y4_2))) else some (.inr t2))) k ((j : Int), Lib.repeatL s i) = some (Lib.repeatL s n) := by
    intro j
    induction j with
    | zero =>
      intro i k hi hk
      obtain ⟨q, rfl⟩ : ∃ q, k = q + 1 := ⟨k - 1, by omega⟩
      rw [loopM_succ]
      have : i = n := by omega
      subst this
      simp [bind_some]
    | succ j ih =>
      intro i k hi hk
      obtain ⟨q, rfl⟩ : ∃ q, k = q + 1 := ⟨k - 1, by omega⟩
      rw [loopM_succ]
      have hpos : decide (((j + 1 : Nat) : Int) > 0) = true := by simp
      have hc : catS (Lib.repeatL s i) s = some (Lib.repeatL s (i + 1)) := by
        unfold catS
        rw [if_pos, repeatL_comm]
        · rfl
        · rw [Lib.repeatL_length]
          have : i * s.length ≤ 2000000 * 2000000 := Nat.mul_le_mul (by omega) hs
          omega
      simp only [hpos, cond_true, hc, bind_some]
      rw [wr_of (by omega) (by omega), show ((j + 1 : Nat) : Int) - 1 = (j : Int) by omega]
      exact ih (i + 1) q (by omega) (by omega)
  have := key n 0 k (by omega) hk
  rw [show (Lib.repeatL s 0) = [] from rfl] at this
  rw [this]
  rfl
theorem s_mvAll_eq {m : Move} {k : Nat} (h : gMove m = true) (hk : 4 ≤ k) : X.s_mvAll k m = some (allSteps m) := by
  rw [gMove_iff] at h
  unfold X.s_mvAll allSteps
  have := s_mvTimes_eq (s := m.Steps) (by omega) m.Repeat.toNat k (by omega) (by omega)
  rw [show ((m.Repeat.toNat : Nat) : Int) = m.Repeat by omega] at this
  rw [this]
  rfl
end Go.Proofs.XC
