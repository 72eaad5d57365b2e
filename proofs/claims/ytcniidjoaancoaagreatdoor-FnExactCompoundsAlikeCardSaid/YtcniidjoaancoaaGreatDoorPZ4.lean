/- Plain laws of the plain functions: no program, no memory. By AI agents; no person has read it. -/
import Derived.Test.YtcniidjoaancoaaGreatDoorPZ3
set_option linter.unusedVariables false
set_option linter.unusedSimpArgs false
set_option maxRecDepth 100000
set_option maxHeartbeats 40000000
namespace Go.Proofs.XC
open Go Go.RowKit
/-! ### The breakers of a constraint -/
def brk (x : Constraint) (l : List Sign) : List Int := ixs (fun s => !(keepC x s)) l 0
def vBreak (l : List Sign) (x : Constraint) : List Int × Bool := if l.all gSign && decide (l.length ≤ 20) && gCon x then (brk x l, true) else ([], false)
theorem vBreak_len (l : List Sign) (x : Constraint) : (vBreak l x).1.length ≤ l.length := by
  unfold vBreak brk
  split
  · exact ixs_len _ l 0
  · simp
end Go.Proofs.XC
