/- Plain laws of the plain functions: no program, no memory. By AI agents; no person has read it. -/
import Derived.Test.YtkckmehkialgjaaGreatDoorPV3
set_option linter.unusedVariables false
set_option linter.unusedSimpArgs false
set_option maxRecDepth 100000
set_option maxHeartbeats 40000000
namespace Go.Proofs.XC
open Go Go.RowKit
/-! ### The reference's split -/
def sp : Str → Str → List Str
  | cur, [] => [cur]
  | cur, x :: r => if x = 47 then cur :: sp [] r else sp (cur ++ [x]) r
theorem sp_none : ∀ (p cur : Str), (47 : UInt8) ∉ p → sp cur p = [cur ++ p]
  | [], cur, _ => by simp [sp]
  | x :: p, cur, h => by
    have h1 : x ≠ 47 := fun e => h (by rw [e]; exact List.mem_cons_self)
    rw [sp, if_neg h1, sp_none p _ fun hp => h (List.mem_cons_of_mem _ hp)]
    simp
theorem sp_app (q : Str) : ∀ (p cur : Str), (47 : UInt8) ∉ p → sp cur (p ++ 47 :: q) = (cur ++ p) :: sp [] q
  | [], cur, _ => by simp [sp]
  | x :: p, cur, h => by
    have h1 : x ≠ 47 := fun e => h (by rw [e]; exact List.mem_cons_self)
    rw [List.cons_append, sp, if_neg h1, sp_app q p _ fun hp => h (List.mem_cons_of_mem _ hp)]
    simp
theorem sp_four (a b d e : Str) (ha : (47 : UInt8) ∉ a) (hb : (47 : UInt8) ∉ b) (hd : (47 : UInt8) ∉ d) (he : (47 : UInt8) ∉ e) : sp [] (a ++ [47] ++ b ++ [47] ++ d ++ [47] ++ e) = [a, b, d, e] := by
  have e1 : a ++ [47] ++ b ++ [47] ++ d ++ [47] ++ e = a ++ 47 :: (b ++ 47 :: (d ++ 47 :: e)) := by simp
  rw [e1, sp_app _ _ _ ha, sp_app _ _ _ hb, sp_app _ _ _ hd, sp_none _ _ he]
  rfl
theorem sp_len : ∀ (r cur : Str), (sp cur r).length ≤ r.length + 1
  | [], cur => by simp [sp]
  | x :: r, cur => by
    rw [sp]
    split
    · have := sp_len r []
      simp only [List.length_cons]
      omega
    · have := sp_len r (cur ++ [x])
      simp only [List.length_cons]
      omega
theorem s_l1Split_eq {k : Nat} (s : Str) (hs : s.length ≤ 1000) (hk : 2000 ≤ k) : X.s_l1Split k s 47 = some (sp [] s) := by
  unfold X.s_l1Split
  have gen : ∀ (r : Str) (i from_ K : Nat) (acc : List Str), s.drop i = r → i ≤ s.length → from_ ≤ i → acc.length ≤ i → r.length < K →
      Option.bind (loopM (fun (⟨n1, n2, l3⟩ : Int × Int × List Str) => (bif decide (n2 < (List.length s : Int)) then (Option.bind (getB s n2) fun y6_2 => (bif (y6_2 == 47) then (Option.bind (cutS s n1 n2) fun y7_4 => (Option.bind (appG eS l3 ([y7_4] : List Str)) fun y7_6 => some (.inl ((wr (n2 + 1)), (wr (n2 + 1)), y7_6)))) else some (.inl (n1, (wr (n2 + 1)), l3)))) else some (.inr (n1, l3)))) K ((from_ : Int), (i : Int), acc)) (fun ⟨n6, l7⟩ => (Option.bind (cutS s n6 (List.length s : Int)) fun y9_3 => (Option.bind (appG eS l7 ([y9_3] : List Str)) fun y9_5 => some y9_5))) = some (acc ++ sp ((s.drop from_).take (i - from_)) r) := by
    intro r
    induction r with
    | nil =>
      intro i from_ K acc hd hi hf ha hK
      have hle : s.length ≤ i := List.drop_eq_nil_iff.1 hd
      have he : i = s.length := by omega
      subst he
      obtain ⟨n, rfl⟩ : ∃ n, K = n + 1 := ⟨K - 1, by simp at hK; omega⟩
      rw [loopM_succ]
      simp only [decE, cond_false, bind_some]
      have hc : cutS s (from_ : Int) (s.length : Int) = some ((s.drop from_).take (s.length - from_)) := by
        unfold cutS
        rw [if_pos (by omega)]
        congr 2
        omega
      rw [hc, bind_some, appT (by simp; omega)]
      rfl
    | cons x r ih =>
      intro i from_ K acc hd hi hf ha hK
      have hx : s[i]? = some x := by
        have := congrArg (fun l => l[0]?) hd
        simpa using this
      have hlt := some_len hx
      have hd' : s.drop (i + 1) = r := by rw [← List.drop_drop (i := 1) (j := i), hd]; rfl
      obtain ⟨n, rfl⟩ : ∃ n, K = n + 1 := ⟨K - 1, by omega⟩
      rw [loopM_succ]
      simp only [decL hlt, cond_true, getB_of hx, bind_some, wr_suc (show i ≤ 4611686018427387904 by omega)]
      have hcut : cutS s (from_ : Int) (i : Int) = some ((s.drop from_).take (i - from_)) := by
        unfold cutS
        rw [if_pos (by omega)]
        congr 2
        omega
      by_cases hc : x = 47
      · subst hc
        have hb : ((((47 : UInt8).toNat : Nat) : Int) == 47) = true := rfl
        simp only [hb, cond_true, hcut, bind_some, appT (show acc.length + [(s.drop from_).take (i - from_)].length ≤ 100000 by simp; omega)]
        rw [ih (i + 1) (i + 1) n _ hd' (by omega) (Nat.le_refl _) (by simp; omega) (by simp at hK; omega), sp, if_pos rfl]
        simp
      · have hb : (((x.toNat : Nat) : Int) == 47) = false := by
          have := ne_byte (c := 47) (by omega) (show x ≠ UInt8.ofNat 47 from hc)
          rw [beq_eq_false_iff_ne] at this ⊢
          exact fun e => this e.symm
        simp only [hb, cond_false, bind_some]
        rw [ih (i + 1) from_ n acc hd' (by omega) (by omega) (by omega) (by simp at hK; omega), sp, if_neg hc]
        congr 3
        rw [show i + 1 - from_ = (i - from_) + 1 by omega, List.take_succ_eq_append_getElem (by rw [List.length_drop]; omega)]
        congr 2
        rw [List.getElem_drop]
        have : s[from_ + (i - from_)]? = some x := by rw [show from_ + (i - from_) = i by omega]; exact hx
        rw [List.getElem?_eq_getElem (by omega)] at this
        exact Option.some.inj this
  have := gen s 0 0 k [] rfl (Nat.zero_le _) (Nat.le_refl _) (Nat.le_refl _) (by omega)
  simpa using this
end Go.Proofs.XC
