/- Plain laws of the plain functions: no program, no memory. By AI agents; no person has read it. -/
import Derived.Test.YtjjhlccjfdcfcaaGreatDoorPR1
import Derived.Lib.SplitLaws
import Derived.Lib.IndexBytes
set_option linter.unusedVariables false
set_option linter.unusedSimpArgs false
set_option maxRecDepth 100000
set_option maxHeartbeats 40000000
namespace Go.Proofs.XC
open Go Go.RowKit
/-! ### Splitting at a byte -/
theorem indexByte_app (c : UInt8) (q : Str) : ∀ p : Str, c ∉ p → Lib.indexByte (p ++ c :: q) c = (p.length : Int)
  | [], _ => by simp [Lib.indexByte]
  | x :: p, h => by
    have h1 : x ≠ c := fun e => h (by rw [e]; exact List.mem_cons_self)
    have ih := indexByte_app c q p fun hp => h (List.mem_cons_of_mem _ hp)
    have hb : (x == c) = false := by simp [h1]
    have hn : (((p.length : Nat) : Int) == -1) = false := by simp
    simp only [List.cons_append, Lib.indexByte, hb, ih, hn, Bool.false_eq_true, if_false, List.length_cons]
    omega
theorem split_app (c : UInt8) (p q : Str) (h : c ∉ p) : Lib.split (p ++ c :: q) [c] = p :: Lib.split q [c] := by
  unfold Lib.split
  have hc : Lib.count (p ++ c :: q) [c] = Lib.count q [c] + 1 := by
    rw [Lib.count_one, Lib.count_one, List.count_append, List.count_cons_self, List.count_eq_zero_of_not_mem h]
    omega
  rw [hc, Lib.splitK, Lib.index_one, indexByte_app c q p h]
  have hn : (((p.length : Nat) : Int) == -1) = false := by simp
  rw [hn]
  simp [List.drop_append, List.drop_eq_nil_of_le]
theorem split_none (c : UInt8) (p : Str) (h : c ∉ p) : Lib.split p [c] = [p] := by
  unfold Lib.split
  rw [Lib.count_one, List.count_eq_zero_of_not_mem h]
  rfl
end Go.Proofs.XC
