/- Plain laws of the plain functions: no program, no memory. By AI agents; no person has read it. -/
import Derived.Test.YtjjhlccjfdcfcaaGreatDoorPL4
import Derived.Test.YtjjhlccjfdcfcaaGreatDoorPR1
import Derived.Test.YtjjhlccjfdcfcaaGreatDoorPZ6
import Derived.Test.YtjjhlccjfdcfcaaGreatDoorPY
set_option linter.unusedVariables false
set_option linter.unusedSimpArgs false
set_option maxRecDepth 100000
set_option maxHeartbeats 40000000
namespace Go.Proofs.XC
open Go Go.RowKit
/-! ### Texts of constraints -/
def numT (z : Int) : Str := if z < 10 then [UInt8.ofNat (48 + z.toNat)] else [49, UInt8.ofNat (48 + (z - 10).toNat)]
/-! ### Reading -/
def spC (c : UInt8) : Str → Str → List Str
  | cur, [] => [cur]
  | cur, x :: r => if x = c then cur :: spC c [] r else spC c (cur ++ [x]) r
theorem appT1 {l m : List Str} (h : l.length + m.length ≤ 100000) : appG eS l m = some (l ++ m) := by
  unfold appG
  have hb : eS.by_ = 16 := rfl
  rw [if_pos (by rw [hb]; omega)]
def bd (i : Nat) : Int := if i = 0 then 9 else if i = 1 then 99 else if i = 2 then 999 else if i = 3 then 9999 else if i = 4 then 99999 else if i = 5 then 999999 else 9999999
theorem bd_step {i : Nat} (h : i ≤ 5) : 10 * bd i + 9 ≤ bd (i + 1) := by
  have : i = 0 ∨ i = 1 ∨ i = 2 ∨ i = 3 ∨ i = 4 ∨ i = 5 := by omega
  rcases this with rfl | rfl | rfl | rfl | rfl | rfl <;> decide
theorem bd_le (i : Nat) : bd i ≤ 9999999 := by unfold bd; (repeat' split) <;> omega
theorem wk8 {n : Nat} (h : n < 256) : wk .u8 (n : Int) = (n : Int) := by
  show IntKind.wrap .u8 (n : Int) = (n : Int)
  simp only [IntKind.wrap, IntKind.bits, IntKind.signed, Bool.false_and, Bool.false_eq_true, if_false]
  omega
/-- The digits that follow, read on top of what was read. -/
theorem rd_loop (s : Str) (hs : s.length ≤ 6) : ∀ (r : Str) (i K : Nat) (n : Int), s.drop i = r → i ≤ s.length → 0 ≤ n → n ≤ bd i → r.length < K →
    ∃ v, orEl (loopM (fun (⟨n4, n5⟩ : Int × Int) => (bif decide (n5 < (List.length s : Int)) then (Option.bind (getB s n5) fun y7_2 => (bif decide (y7_2 < 48) then some (.inr (Sum.inl (-1))) else (bif decide (y7_2 > 57) then some (.inr (.inl (-1))) else some (.inl ((wr ((wr (10 * n4)) + (wr (wk .u8 (y7_2 - 48))))), (wr (n5 + 1))))))) else some (.inr (.inr n4)))) K (n, (i : Int))) (fun r => some r) (fun n6 => some n6) = some v ∧ (v = -1 ∨ (n ≤ v ∧ ∃ ds : List Nat, r = ds.map (fun d => UInt8.ofNat (48 + d)) ∧ (∀ d ∈ ds, d ≤ 9) ∧ v = ds.foldl (fun (a : Int) (d : Nat) => 10 * a + (d : Int)) n)) := by
  intro r
  induction r with
  | nil =>
    intro i K n hd hi h0 h1 hK
    have hle : s.length ≤ i := List.drop_eq_nil_iff.1 hd
    have he : i = s.length := by omega
    subst he
    obtain ⟨m, rfl⟩ : ∃ m, K = m + 1 := ⟨K - 1, by simp at hK; omega⟩
    rw [loopM_succ]
    simp only [decE, cond_false, bind_some]
    exact ⟨n, rfl, .inr ⟨Int.le_refl _, [], rfl, (fun d hd => by cases hd), rfl⟩⟩
  | cons x r ih =>
    intro i K n hd hi h0 h1 hK
    have hx : s[i]? = some x := by
      have := congrArg (fun l => l[0]?) hd
      simpa using this
    have hlt := some_len hx
    have hd' : s.drop (i + 1) = r := by rw [← List.drop_drop (i := 1) (j := i), hd]; rfl
    obtain ⟨m, rfl⟩ : ∃ m, K = m + 1 := ⟨K - 1, by omega⟩
    rw [loopM_succ]
    simp only [decL hlt, cond_true, getB_of hx, bind_some]
    by_cases h48 : ((x.toNat : Nat) : Int) < 48
    · rw [decide_eq_true h48]
      exact ⟨-1, rfl, .inl rfl⟩
    rw [decide_eq_false h48, cond_false]
    by_cases h57 : ((x.toNat : Nat) : Int) > 57
    · rw [decide_eq_true h57]
      exact ⟨-1, rfl, .inl rfl⟩
    rw [decide_eq_false h57, cond_false, bind_some]
    dsimp only
    have hb := bd_le i
    have hb2 := bd_step (i := i) (by omega)
    have hw0 : wk .u8 (((x.toNat : Nat) : Int) - 48) = ((x.toNat : Nat) : Int) - 48 := by
      have : (((x.toNat : Nat) : Int) - 48) = ((x.toNat - 48 : Nat) : Int) := by omega
      rw [this]
      exact wk8 (by omega)
    have w1 : wr (10 * n) = 10 * n := wr_of (by omega) (by omega)
    have w2 : wr (((x.toNat : Nat) : Int) - 48) = ((x.toNat : Nat) : Int) - 48 := wr_of (by omega) (by omega)
    have w3 : wr (10 * n + (((x.toNat : Nat) : Int) - 48)) = 10 * n + (((x.toNat : Nat) : Int) - 48) := wr_of (by omega) (by omega)
    rw [hw0, w1, w2, w3, wr_suc (show i ≤ 4611686018427387904 by omega)]
    obtain ⟨v, e, hv⟩ := ih (i + 1) m (10 * n + (((x.toNat : Nat) : Int) - 48)) hd' (by omega) (by omega) (by omega) (by simp at hK; omega)
    refine ⟨v, e, ?_⟩
    rcases hv with hv | ⟨hv, ds, e1, e2, e3⟩
    · exact .inl hv
    · refine .inr ⟨by omega, (x.toNat - 48) :: ds, ?_, ?_, ?_⟩
      · rw [List.map_cons, ← e1]
        congr 1
        have : 48 + (x.toNat - 48) = x.toNat := by omega
        rw [this]
        exact (UInt8.ofNat_toNat).symm
      · intro d hd
        rcases List.mem_cons.1 hd with rfl | hd
        · omega
        · exact e2 d hd
      · rw [List.foldl_cons, e3]
        congr 1
        omega
theorem fold_ge : ∀ (ds : List Nat) (n : Int), 0 ≤ n → n ≤ ds.foldl (fun (a : Int) (d : Nat) => 10 * a + (d : Int)) n
  | [], n, h => Int.le_refl _
  | d :: ds, n, h => by
    rw [List.foldl_cons]
    have := fold_ge ds (10 * n + (d : Int)) (by omega)
    omega
theorem digs {ds : List Nat} {v : Int} (hl : ds ≠ []) (h9 : ∀ d ∈ ds, d ≤ 9) (hv : v = ds.foldl (fun (a : Int) (d : Nat) => 10 * a + (d : Int)) 0) (h18 : v ≤ 18) (h0 : ds.head? ≠ some 0 ∨ ds.length ≤ 1) : ds.map (fun d => UInt8.ofNat (48 + d)) = numT v := by
  match ds, hl with
  | [a], _ =>
    have := h9 a (by simp)
    simp only [List.foldl_cons, List.foldl_nil] at hv
    have e : v = (a : Int) := by omega
    subst e
    unfold numT
    rw [if_pos (by omega)]
    rfl
  | [a, b], _ =>
    have ha : a ≠ 0 := by
      rcases h0 with h | h
      · intro e; subst e; simp at h
      · simp at h
    have h1 := h9 a (by simp)
    have h2 := h9 b (by simp)
    simp only [List.foldl_cons, List.foldl_nil] at hv
    have ea : a = 1 := by omega
    subst ea
    have e : v = 10 + (b : Int) := by omega
    subst e
    unfold numT
    rw [if_neg (by omega)]
    have : (10 + (b : Int) - 10).toNat = b := by omega
    rw [this]
    rfl
  | a :: b :: c :: ds, _ =>
    exfalso
    have ha : a ≠ 0 := by
      rcases h0 with h | h
      · intro e; subst e; simp at h
      · simp at h
    simp only [List.foldl_cons] at hv
    have := fold_ge ds (10 * (10 * (10 * 0 + (a : Int)) + (b : Int)) + (c : Int)) (by omega)
    omega
theorem read_ex {k : Nat} (s : Str) (hk : 2000010 ≤ k) : ∃ v, X.s_l1Read k s = some v ∧ (0 ≤ v → v ≤ 18 → s = numT v) := by
  unfold X.s_l1Read
  rw [s_l1In_eq, bind_some]
  cases hr : inR (s.length : Int) 1 6
  · exact ⟨-1, rfl, fun h => by omega⟩
  have hl := inR_iff.1 hr
  rw [Bool.not_true, cond_false]
  match s, hl with
  | x :: s, hl =>
  have hx : (x :: s)[0]? = some x := rfl
  have e0 : getB (x :: s) 0 = some (x.toNat : Int) := getB_of (i := 0) hx
  rw [e0, bind_some]
  have hl6 : (x :: s).length ≤ 6 := by omega
  obtain ⟨v, e, hv⟩ := rd_loop (x :: s) hl6 (x :: s) 0 k 0 rfl (by simp) (by omega) (by decide) (by omega)
  have key : ((x.toNat : Int) ≠ 48 ∨ (x :: s).length ≤ 1) → 0 ≤ v → v ≤ 18 → x :: s = numT v := by
    intro h0 h1 h2
    rcases hv with hv | ⟨_, ds, f1, f2, f3⟩
    · omega
    · have hne : ds ≠ [] := fun e => by subst e; cases f1
      rw [f1]
      refine digs hne f2 f3 h2 ?_
      rcases h0 with h0 | h0
      · left
        cases ds with
        | nil => cases f1
        | cons d ds =>
          rw [List.map_cons] at f1
          injection f1 with f1 _
          intro e
          rw [List.head?_cons] at e
          injection e with e
          subst e
          rw [f1] at h0
          exact h0 rfl
      · right
        have := congrArg List.length f1
        rw [List.length_map] at this
        omega
  by_cases h48 : (x.toNat : Int) = 48
  · rw [h48, beq_self_eq_true, cond_true]
    by_cases hlen : ((x :: s).length : Int) > 1
    · rw [decide_eq_true hlen]
      exact ⟨-1, rfl, fun h => by omega⟩
    · rw [decide_eq_false hlen, cond_false]
      exact ⟨v, e, key (.inr (by omega))⟩
  · have : ((x.toNat : Int) == 48) = false := beq_eq_false_iff_ne.2 h48
    rw [this, cond_false]
    exact ⟨v, e, key (.inl h48)⟩
/-! ### Parsing -/
/-! ### Broken constraints -/
/-! ### Draws -/
end Go.Proofs.XC
