/- Plain laws of the plain functions: no program, no memory. By AI agents; no person has read it. -/
import Derived.Test.YtldkmmopfhhdgaaGreatDoorPZ1
set_option linter.unusedVariables false
set_option linter.unusedSimpArgs false
set_option maxRecDepth 100000
set_option maxHeartbeats 40000000
namespace Go.Proofs.XC
open Go Go.RowKit
/-! ### A part of another sign -/
theorem nS_none {s : Sign} (h : s.Two = false) : (nS s).Other = zHand := by unfold nS; simp [h]
theorem small_good {h : Hand} (g : gHand h = true) : small h := by
  have := (gMove_iff.1 (gHand_iff.1 g).2.2.2).1
  unfold small
  omega
theorem smallS_nS {s : Sign} (g : gSign s = true) : smallS (nS s) := by
  refine ⟨small_good (nS_main g), ?_⟩
  cases h : s.Two with
  | false => rw [nS_none h]; unfold small; simp [zHand, zMove]
  | true => exact small_good (nS_other g h)
def tail_ (s : Sign) : Sign × Bool := if gSign s then (nS s, true) else (zSign, false)
theorem i_tail {k : Nat} {s : Sign} (hs : smallS s) (hk : 10 ≤ k) : (Option.bind (X.i_IsSign k s) fun v => (bif (!v) then some (zSign, false) else (Option.bind (X.i_Sign_normal k s) fun v => some (v, true)))) = some (tail_ s) := by
  rw [i_IsSign_eq hs hk, bind_some]
  unfold tail_
  cases g : gSign s
  · rfl
  · rw [i_normal_eq g hk]; rfl
theorem s_tail {k : Nat} {s : Sign} (hs : smallS s) (hk : 2000010 ≤ k) : (Option.bind (X.s_siGood k s) fun v => (bif (!v) then some (zSign, false) else (Option.bind (X.s_noForm k s) fun v => some (v, true)))) = some (tail_ s) := by
  rw [s_siGood_eq hs hk, bind_some]
  unfold tail_
  cases g : gSign s
  · rfl
  · rw [s_noForm_eq g (by omega)]; rfl
end Go.Proofs.XC
