/- Plain laws of the plain functions: no program, no memory. By AI agents; no person has read it. -/
import Derived.Test.YtldkmmopfhhdgaaGreatDoorPV3
set_option linter.unusedVariables false
set_option linter.unusedSimpArgs false
set_option maxRecDepth 100000
set_option maxHeartbeats 40000000
namespace Go.Proofs.XC
open Go Go.RowKit
/-! ### The reference's split -/
def sp : Str → Str → List Str
  | cur, [] => [cur]
  | cur, x :: r => if x = 47 then cur :: sp [] r else sp (cur ++ [x]) r
theorem sp_none : ∀ (p cur : Str), (47 : UInt8) ∉ p → sp cur p = [cur ++ p]
  | [], cur, _ => by simp [sp]
  | x :: p, cur, h => by
    have h1 : x ≠ 47 := fun e => h (by rw [e]; exact List.mem_cons_self)
    rw [sp, if_neg h1, sp_none p _ fun hp => h (List.mem_cons_of_mem _ hp)]
    simp
theorem sp_app (q : Str) : ∀ (p cur : Str), (47 : UInt8) ∉ p → sp cur (p ++ 47 :: q) = (cur ++ p) :: sp [] q
  | [], cur, _ => by simp [sp]
  | x :: p, cur, h => by
    have h1 : x ≠ 47 := fun e => h (by rw [e]; exact List.mem_cons_self)
    rw [List.cons_append, sp, if_neg h1, sp_app q p _ fun hp => h (List.mem_cons_of_mem _ hp)]
    simp
theorem sp_four (a b d e : Str) (ha : (47 : UInt8) ∉ a) (hb : (47 : UInt8) ∉ b) (hd : (47 : UInt8) ∉ d) (he : (47 : UInt8) ∉ e) : sp [] (a ++ [47] ++ b ++ [47] ++ d ++ [47] ++ e) = [a, b, d, e] := by
  have e1 : a ++ [47] ++ b ++ [47] ++ d ++ [47] ++ e = a ++ 47 :: (b ++ 47 :: (d ++ 47 :: e)) := by simp
  rw [e1, sp_app _ _ _ ha, sp_app _ _ _ hb, sp_app _ _ _ hd, sp_none _ _ he]
  rfl
theorem sp_len : ∀ (r cur : Str), (sp cur r).length ≤ r.length + 1
  | [], cur => by simp [sp]
  | x :: r, cur => by
    rw [sp]
    split
    · have := sp_len r []
      simp only [List.length_cons]
      omega
    · have := sp_len r (cur ++ [x])
      simp only [List.length_cons]
      omega
end Go.Proofs.XC
