/- Plain laws of the plain functions: no program, no memory. By AI agents; no person has read it. -/
import Derived.Test.YtjjhlccjfdcfcaaGreatDoorPN1
set_option linter.unusedVariables false
set_option linter.unusedSimpArgs false
set_option maxRecDepth 100000
set_option maxHeartbeats 40000000
namespace Go.Proofs.XC
open Go Go.RowKit
/-! ### All orders -/
def ords (n : Nat) : Nat → List Int → List (List Int)
  | 0, o => [o]
  | d + 1, o => (List.range' 0 n).flatMap fun (j : Nat) => if (j : Int) ∈ o then [] else ords n d (o ++ [(j : Int)])
theorem ords_len {n : Nat} (hn : n ≤ 4) : ∀ (d : Nat) (o : List Int), (ords n d o).length ≤ 4 ^ d
  | 0, o => by simp [ords]
  | d + 1, o => by
    have key : ∀ (m j : Nat), ((List.range' j m).flatMap fun (j : Nat) => if (j : Int) ∈ o then [] else ords n d (o ++ [(j : Int)])).length ≤ m * 4 ^ d := by
      intro m
      induction m with
      | zero => intro j; simp
      | succ m ih =>
        intro j
        rw [List.range'_succ, List.flatMap_cons, List.length_append, Nat.succ_mul]
        have h1 := ih (j + 1)
        have h2 : (if (j : Int) ∈ o then ([] : List (List Int)) else ords n d (o ++ [(j : Int)])).length ≤ 4 ^ d := by
          split
          · simp
          · exact ords_len hn d _
        omega
    rw [ords, Nat.pow_succ]
    have := key n 0
    have h3 : n * 4 ^ d ≤ 4 * 4 ^ d := Nat.mul_le_mul_right _ hn
    omega
theorem s_has_eq (o : List Int) (z : Int) : X.s_l1Has o z = some (decide (z ∈ o)) := by
  unfold X.s_l1Has
  have key : ∀ (o : List Int) (j : Nat), rangeM (fun (j2 : Int) (x3 : Int) (_ : Unit) => (bif (x3 == z) then some (Sum.inr (Sum.inl true)) else some (Sum.inl ()))) (fun _ => some (Sum.inr ())) o j () = some (if z ∈ o then Sum.inl true else Sum.inr ()) := by
    intro o
    induction o with
    | nil => intro j; simp [rangeM_nil]
    | cons x o ih =>
      intro j
      rw [rangeM_cons]
      by_cases h : x = z
      · subst h; simp [bind_some]
      · have h' : ¬ z = x := fun e => h e.symm
        rw [beq_eq_false_iff_ne.2 h]
        simp only [cond_false, bind_some, List.mem_cons, h', false_or]
        exact ih (j + 1)
  have := key o 0
  rw [this]
  by_cases h : z ∈ o <;> simp [h, orEl]
theorem i_has_eq (o : List Int) (z : Int) : X.slices_Contains_int_int o z = some (decide (z ∈ o)) := by
  unfold X.slices_Contains_int_int X.slices_Index_int_int
  have h := anyF_eq (fun x => z == x) (fun x => some (z == x)) o (fun x _ => rfl)
  simp only [bind_some] at h
  refine Eq.trans h ?_
  congr 1
  rw [Bool.eq_iff_iff]
  simp
theorem own_eq {o : List Int} (h : o.length ≤ 1000) : X.s_l1Own o = some o := by
  unfold X.s_l1Own appG
  have hb : (eI .i64).by_ = 8 := rfl
  rw [if_pos (by rw [hb]; simp; omega)]
  rfl
theorem clone_eq {o : List Int} (h : o.length ≤ 1000) : X.slices_Clone_int_int o = some o := by
  unfold X.slices_Clone_int_int appG
  have hb : (eI .i64).by_ = 8 := rfl
  rw [if_pos (by rw [hb]; simp; omega)]
  rfl
theorem cloneS_eq {o : List Sign} (h : o.length ≤ 1000) : X.slices_Clone_i_Sign_i_Sign o = some o := by
  unfold X.slices_Clone_i_Sign_i_Sign
  rw [appS (by simp; omega)]
  rfl
theorem pow4 {d : Nat} (h : d ≤ 4) : 4 ^ d ≤ 256 := by
  have : d = 0 ∨ d = 1 ∨ d = 2 ∨ d = 3 ∨ d = 4 := by omega
  rcases this with rfl | rfl | rfl | rfl | rfl <;> decide
theorem s_orders_eq {n : Nat} (hn : n ≤ 4) : ∀ (d : Nat) (o : List Int) (k : Nat), d + o.length = n → X.s_cmOrders (k + d + 10) (n : Int) o = some (ords n d o)
  | 0, o, k, h => by
    rw [show k + 0 + 10 = (k + 9) + 1 by omega, X.s_cmOrders]
    have : ((List.length o : Int) == (n : Int)) = true := by rw [beq_iff_eq]; omega
    rw [this]
    rfl
  | d + 1, o, k, h => by
    rw [show k + (d + 1) + 10 = (k + d + 10) + 1 by omega, X.s_cmOrders]
    have : ((List.length o : Int) == (n : Int)) = false := by rw [beq_eq_false_iff_ne]; omega
    rw [this, cond_false]
    have hp := pow4 (d := d) (by omega)
    have hol : ∀ q, (ords n d q).length ≤ 4 ^ d := fun q => ords_len hn d q
    generalize 4 ^ d = Q at hp hol
    obtain ⟨body, hbody⟩ : ∃ body : Int × List (List Int) → Option ((Int × List (List Int)) ⊕ List (List Int)), body = (fun (⟨n2, l6⟩ : Int × List (List Int)) => (bif decide (n2 < (n : Int)) then (Option.bind (X.s_l1Has o n2) fun v7_2 => (bif (!v7_2) then (Option.bind (X.s_l1Own o) fun v8_3 => (Option.bind (appG (eI .i64) v8_3 ([n2] : List Int)) fun y8_6 => (Option.bind (X.s_cmOrders (k + d + 10) (n : Int) y8_6) fun v8_7 => (Option.bind (appD l6 v8_7) fun y8_8 => some (Sum.inl ((wr (n2 + 1)), y8_8)))))) else some (.inl ((wr (n2 + 1)), l6)))) else some (Sum.inr l6))) := ⟨_, rfl⟩
    have hb : ∀ n2 l6, body (n2, l6) = (bif decide (n2 < (n : Int)) then (Option.bind (X.s_l1Has o n2) fun v7_2 => (bif (!v7_2) then (Option.bind (X.s_l1Own o) fun v8_3 => (Option.bind (appG (eI .i64) v8_3 ([n2] : List Int)) fun y8_6 => (Option.bind (X.s_cmOrders (k + d + 10) (n : Int) y8_6) fun v8_7 => (Option.bind (appD l6 v8_7) fun y8_8 => some (Sum.inl ((wr (n2 + 1)), y8_8)))))) else some (.inl ((wr (n2 + 1)), l6)))) else some (Sum.inr l6)) := fun n2 l6 => by rw [hbody]
    rw [← hbody]
    have key : ∀ (m j K : Nat) (acc : List (List Int)), j + m = n → m < K → acc.length ≤ j * Q →
        loopM body K ((j : Int), acc) = some (acc ++ (List.range' j m).flatMap fun (j : Nat) => if (j : Int) ∈ o then [] else ords n d (o ++ [(j : Int)])) := by
      intro m
      induction m with
      | zero =>
        intro j K acc hj hK ha
        obtain ⟨q, rfl⟩ : ∃ q, K = q + 1 := ⟨K - 1, by omega⟩
        rw [loopM_succ, hb]
        have : decide ((j : Int) < (n : Int)) = false := decide_eq_false (by omega)
        simp only [this, cond_false, bind_some]
        simp
      | succ m ih =>
        intro j K acc hj hK ha
        obtain ⟨q, rfl⟩ : ∃ q, K = q + 1 := ⟨K - 1, by omega⟩
        have hlt : decide ((j : Int) < (n : Int)) = true := decide_eq_true (by omega)
        have hs : (j + 1) * Q = j * Q + Q := Nat.succ_mul _ _
        rw [loopM_succ, hb, List.range'_succ, List.flatMap_cons]
        simp only [hlt, cond_true, s_has_eq, bind_some]
        by_cases hm : (j : Int) ∈ o
        · simp only [hm, decide_true, Bool.not_true, cond_false, bind_some, if_true, List.nil_append]
          rw [wr_suc (by omega)]
          exact ih (j + 1) q acc (by omega) (by omega) (by omega)
        · have ho : o.length ≤ 4 := by omega
          have hrec := s_orders_eq hn d (o ++ [(j : Int)]) k (by simp; omega)
          have hq := hol (o ++ [(j : Int)])
          have hj4 : j * Q ≤ 4 * 256 := Nat.mul_le_mul (by omega) hp
          have hap : appD acc (ords n d (o ++ [(j : Int)])) = some (acc ++ ords n d (o ++ [(j : Int)])) := by
            unfold appD
            rw [if_pos (by omega)]
          simp only [hm, decide_false, Bool.not_false, cond_true, own_eq (show o.length ≤ 1000 by omega), appI (show o.length ≤ 1000000 by omega), hrec, hap, bind_some, if_false]
          rw [wr_suc (by omega), ih (j + 1) q _ (by omega) (by omega) (by rw [List.length_append]; omega), List.append_assoc]
    have := key n 0 (k + d + 10) [] (by omega) (by omega) (by simp)
    rw [show (((0 : Nat) : Int)) = 0 from rfl] at this
    rw [this, bind_some, ords]
    rfl
theorem nodup_le : ∀ (n : Nat) (o : List Int), o.Nodup → inO n o → o.length ≤ n
  | 0, o, _, h => by
    cases o with
    | nil => simp
    | cons z o =>
      have := h z (by simp)
      omega
  | n + 1, o, hd, h => by
    have h1 : inO n (o.erase (n : Int)) := by
      intro z hz
      have hz2 := (List.Nodup.mem_erase_iff hd).1 hz
      have := h z hz2.2
      have : z ≠ (n : Int) := hz2.1
      omega
    have h2 := nodup_le n _ (hd.erase _) h1
    by_cases hm : (n : Int) ∈ o
    · rw [List.length_erase_of_mem hm] at h2
      omega
    · rw [List.erase_of_not_mem hm] at h2
      omega
theorem full {n : Nat} {o : List Int} (hd : o.Nodup) (h : inO n o) (hl : o.length = n) {z : Int} (hz : 0 ≤ z ∧ z < (n : Int)) : z ∈ o := by
  apply Classical.byContradiction
  intro hm
  have := nodup_le n (z :: o) (List.nodup_cons.2 ⟨hm, hd⟩) fun x hx => by
    rcases List.mem_cons.1 hx with rfl | hx
    · exact hz
    · exact h x hx
  simp at this
  omega
theorem ext_ok {n j : Nat} {o : List Int} (hd : o.Nodup) (h : inO n o) (hj : j < n) (hm : ¬ (j : Int) ∈ o) : (o ++ [(j : Int)]).Nodup ∧ inO n (o ++ [(j : Int)]) := by
  refine ⟨List.nodup_append.2 ⟨hd, by simp, fun x hx y hy e => ?_⟩, fun z hz => ?_⟩
  · rw [List.mem_singleton] at hy
    subst hy
    subst e
    exact hm hx
  · rcases List.mem_append.1 hz with hz | hz
    · exact h z hz
    · rw [List.mem_singleton] at hz
      subst hz
      omega
theorem ords_ok {n : Nat} : ∀ (d : Nat) (o : List Int), d + o.length = n → o.Nodup → inO n o → ∀ q ∈ ords n d o, q.length = n ∧ q.Nodup ∧ inO n q
  | 0, o, h, hd, ho, q, hq => by
    rw [ords, List.mem_singleton] at hq
    subst hq
    exact ⟨by omega, hd, ho⟩
  | d + 1, o, h, hd, ho, q, hq => by
    rw [ords, List.mem_flatMap] at hq
    obtain ⟨j, hj, hq⟩ := hq
    have hjn : j < n := by
      have := List.mem_range'_1.1 hj
      omega
    by_cases hm : (j : Int) ∈ o
    · rw [if_pos hm] at hq
      simp at hq
    · rw [if_neg hm] at hq
      have := ext_ok hd ho hjn hm
      exact ords_ok d _ (by simp; omega) this.1 this.2 q hq
end Go.Proofs.XC
