/- Plain laws of the plain functions: no program, no memory. By AI agents; no person has read it. -/
import Derived.Test.YtenkalmmdamfgaaGreatDoorSPR1
import Derived.Lib.SplitLaws
import Derived.Lib.IndexBytes
set_option linter.unusedVariables false
set_option linter.unusedSimpArgs false
set_option maxRecDepth 100000
set_option maxHeartbeats 40000000
namespace Go.Proofs.XC
open Go Go.RowKit
/-! ### The reference's split -/
def sp : Str → Str → List Str
  | cur, [] => [cur]
  | cur, x :: r => if x = 47 then cur :: sp [] r else sp (cur ++ [x]) r
end Go.Proofs.XC
