/- Plain laws of the plain functions: no program, no memory. By AI agents; no person has read it. -/
import Derived.Test.YtjjhlccjfdcfcaaGreatDoorPL10
import Derived.Test.YtjjhlccjfdcfcaaGreatDoorPV3
set_option linter.unusedVariables false
set_option linter.unusedSimpArgs false
set_option maxRecDepth 100000
set_option maxHeartbeats 40000000
namespace Go.Proofs.XC
open Go Go.RowKit
/-! ### Texts that are split, cut and counted at a byte -/
theorem lsC_eq (c : UInt8) {k : Nat} (s : Str) (hs : s.length ≤ 1000) (hk : 2000 ≤ k) : X.s_l1Split k s (c.toNat : Int) = some (spC c [] s) := by
  unfold X.s_l1Split
  have gen : ∀ (r : Str) (i from_ K : Nat) (acc : List Str), s.drop i = r → i ≤ s.length → from_ ≤ i → acc.length ≤ i → r.length < K →
      Option.bind (loopM (fun (⟨n1, n2, l3⟩ : Int × Int × List Str) => (bif decide (n2 < (List.length s : Int)) then (Option.bind (getB s n2) fun y6_2 => (bif (y6_2 == (c.toNat : Int)) then (Option.bind (cutS s n1 n2) fun y7_4 => (Option.bind (appG eS l3 ([y7_4] : List Str)) fun y7_6 => some (.inl ((wr (n2 + 1)), (wr (n2 + 1)), y7_6)))) else some (.inl (n1, (wr (n2 + 1)), l3)))) else some (.inr (n1, l3)))) K ((from_ : Int), (i : Int), acc)) (fun ⟨n6, l7⟩ => (Option.bind (cutS s n6 (List.length s : Int)) fun y9_3 => (Option.bind (appG eS l7 ([y9_3] : List Str)) fun y9_5 => some y9_5))) = some (acc ++ spC c ((s.drop from_).take (i - from_)) r) := by
    intro r
    induction r with
    | nil =>
      intro i from_ K acc hd hi hf ha hK
      have hle : s.length ≤ i := List.drop_eq_nil_iff.1 hd
      have he : i = s.length := by omega
      subst he
      obtain ⟨n, rfl⟩ : ∃ n, K = n + 1 := ⟨K - 1, by simp at hK; omega⟩
      rw [loopM_succ]
      simp only [decE, cond_false, bind_some]
      have hc : cutS s (from_ : Int) (s.length : Int) = some ((s.drop from_).take (s.length - from_)) := by
        unfold cutS
        rw [if_pos (by omega)]
        congr 2
        omega
      rw [hc, bind_some, appT1 (by simp; omega)]
      rfl
    | cons x r ih =>
      intro i from_ K acc hd hi hf ha hK
      have hx : s[i]? = some x := by
        have := congrArg (fun l => l[0]?) hd
        simpa using this
      have hlt := some_len hx
      have hd' : s.drop (i + 1) = r := by rw [← List.drop_drop (i := 1) (j := i), hd]; rfl
      obtain ⟨n, rfl⟩ : ∃ n, K = n + 1 := ⟨K - 1, by omega⟩
      rw [loopM_succ]
      simp only [decL hlt, cond_true, getB_of hx, bind_some, wr_suc (show i ≤ 4611686018427387904 by omega)]
      have hcut : cutS s (from_ : Int) (i : Int) = some ((s.drop from_).take (i - from_)) := by
        unfold cutS
        rw [if_pos (by omega)]
        congr 2
        omega
      by_cases hc : x = c
      · have hb : (((x.toNat : Nat) : Int) == (c.toNat : Int)) = true := by rw [hc]; exact beq_self_eq_true _
        simp only [hb, cond_true, hcut, bind_some, appT1 (show acc.length + [(s.drop from_).take (i - from_)].length ≤ 100000 by simp; omega)]
        rw [ih (i + 1) (i + 1) n _ hd' (by omega) (Nat.le_refl _) (by simp; omega) (by simp at hK; omega), spC, if_pos hc]
        simp
      · have hb : (((x.toNat : Nat) : Int) == (c.toNat : Int)) = false := by
          rw [beq_eq_false_iff_ne]
          intro e
          exact hc (UInt8.toNat_inj.1 (by omega))
        simp only [hb, cond_false, bind_some]
        rw [ih (i + 1) from_ n acc hd' (by omega) (by omega) (by omega) (by simp at hK; omega), spC, if_neg hc]
        congr 3
        rw [show i + 1 - from_ = (i - from_) + 1 by omega, List.take_succ_eq_append_getElem (by rw [List.length_drop]; omega)]
        congr 2
        rw [List.getElem_drop]
        have : s[from_ + (i - from_)]? = some x := by rw [show from_ + (i - from_) = i by omega]; exact hx
        rw [List.getElem?_eq_getElem (by omega)] at this
        exact Option.some.inj this
  have := gen s 0 0 k [] rfl (Nat.zero_le _) (Nat.le_refl _) (Nat.le_refl _) (by omega)
  simpa using this
theorem spC_none (c : UInt8) : ∀ (p cur : Str), c ∉ p → spC c cur p = [cur ++ p]
  | [], cur, _ => by simp [spC]
  | x :: p, cur, h => by
    have h1 : x ≠ c := fun e => h (by rw [e]; exact List.mem_cons_self)
    rw [spC, if_neg h1, spC_none c p _ fun hp => h (List.mem_cons_of_mem _ hp)]
    simp
theorem spC_app (c : UInt8) (q : Str) : ∀ (p cur : Str), c ∉ p → spC c cur (p ++ c :: q) = (cur ++ p) :: spC c [] q
  | [], cur, _ => by simp [spC]
  | x :: p, cur, h => by
    have h1 : x ≠ c := fun e => h (by rw [e]; exact List.mem_cons_self)
    rw [List.cons_append, spC, if_neg h1, spC_app c q p _ fun hp => h (List.mem_cons_of_mem _ hp)]
    simp
theorem split_spC (c : UInt8) : ∀ (n : Nat) (s : Str), s.length ≤ n → Lib.split s [c] = spC c [] s
  | 0, s, h => by
    have : s = [] := List.eq_nil_of_length_eq_zero (by omega)
    subst this
    rw [split_none c [] (by simp)]
    rfl
  | n + 1, s, h => by
    by_cases hm : c ∈ s
    · obtain ⟨p, q, rfl, hp⟩ := List.eq_append_cons_of_mem hm
      rw [split_app c p q hp, spC_app c q p [] hp, split_spC c n q (by simp at h; omega)]
      simp
    · rw [split_none c s hm, spC_none c s [] hm]
      simp
theorem split_eq (c : UInt8) (s : Str) (hs : s.length ≤ 1000) : X.strings_Split s [c] = some (spC c [] s) := by
  unfold X.strings_Split X.strings_genSplit
  have d : decide (s.length < 4294967281) = true := decide_eq_true (by omega)
  have d1 : decide (([c] : Str).length = 1) = true := rfl
  rw [d, d1]
  simp only [decide_true, Bool.and_self, cond_true, bind_some]
  rw [split_spC c s.length s (Nat.le_refl _)]
theorem spC_count (c : UInt8) : ∀ (s cur : Str), (spC c cur s).length = s.count c + 1
  | [], cur => by simp [spC]
  | x :: s, cur => by
    rw [spC]
    by_cases h : x = c
    · rw [if_pos h, List.length_cons, spC_count c s [], h, List.count_cons_self]
    · rw [if_neg h, spC_count c s _, List.count_cons_of_ne h]
theorem count_eq (c : UInt8) (s : Str) : X.strings_Count s [c] = some ((s.count c : Nat) : Int) := by
  unfold X.strings_Count Lib.countByte
  rw [show decide (([c] : Str).length = 1) = true from rfl, cond_true]
  rfl
theorem indexByte_none (c : UInt8) : ∀ p : Str, c ∉ p → Lib.indexByte p c = -1
  | [], _ => rfl
  | x :: p, h => by
    have h1 : x ≠ c := fun e => h (by rw [e]; exact List.mem_cons_self)
    have h2 := indexByte_none c p fun hp => h (List.mem_cons_of_mem _ hp)
    rw [Lib.indexByte, if_neg (by simpa using h1), h2]
    rfl
theorem cut_none (c : UInt8) (s : Str) (h : c ∉ s) : X.strings_Cut s [c] = some (s, [], false) := by
  unfold X.strings_Cut X.internal_stringslite_Cut X.internal_stringslite_Index
  rw [show decide (([c] : Str).length = 1) = true from rfl, cond_true, bind_some, show ([c] : Str).headD 0 = c from rfl, indexByte_none c s h]
  rfl
theorem cut_app (c : UInt8) (p q : Str) (h : c ∉ p) (hl : (p ++ c :: q).length ≤ 1000) : X.strings_Cut (p ++ c :: q) [c] = some (p, q, true) := by
  unfold X.strings_Cut X.internal_stringslite_Cut X.internal_stringslite_Index
  rw [show decide (([c] : Str).length = 1) = true from rfl, cond_true, bind_some, show ([c] : Str).headD 0 = c from rfl, indexByte_app c q p h]
  have e0 : decide (((p.length : Nat) : Int) ≥ 0) = true := decide_eq_true (by omega)
  have e1 : cutS (p ++ c :: q) 0 ((p.length : Nat) : Int) = some p := by
    rw [cut0 _ _ (by simp)]
    simp
  have e2 : wr (((p.length : Nat) : Int) + ((([c] : Str).length : Nat) : Int)) = ((p.length + 1 : Nat) : Int) := by
    have := wr_suc (n := p.length) (by simp at hl; omega)
    exact this
  have e3 : cutS (p ++ c :: q) ((p.length + 1 : Nat) : Int) ((p ++ c :: q).length : Int) = some q := by
    unfold cutS
    rw [if_pos (by simp; omega)]
    congr 1
    have : ((p.length + 1 : Nat) : Int).toNat = p.length + 1 := by omega
    rw [this, show p ++ c :: q = (p ++ [c]) ++ q by simp, List.drop_left' (by simp)]
    apply List.take_of_length_le
    simp
    omega
  rw [e0, cond_true, e1, bind_some, e2, e3]
  rfl
theorem cut_cases (c : UInt8) (s : Str) (hl : s.length ≤ 1000) : (c ∉ s ∧ spC c [] s = [s] ∧ X.strings_Cut s [c] = some (s, [], false)) ∨
    (∃ p q, s = p ++ c :: q ∧ c ∉ p ∧ spC c [] s = p :: spC c [] q ∧ X.strings_Cut s [c] = some (p, q, true)) := by
  by_cases hm : c ∈ s
  · obtain ⟨p, q, rfl, hp⟩ := List.eq_append_cons_of_mem hm
    refine .inr ⟨p, q, rfl, hp, ?_, cut_app c p q hp hl⟩
    rw [spC_app c q p [] hp]
    rfl
  · exact .inl ⟨hm, by rw [spC_none c s [] hm]; rfl, cut_none c s hm⟩
end Go.Proofs.XC
