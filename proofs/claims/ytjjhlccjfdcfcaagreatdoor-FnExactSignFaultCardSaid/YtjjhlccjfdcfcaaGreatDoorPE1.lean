/- Plain laws of the plain functions: no program, no memory. By AI agents; no person has read it. -/
import Derived.Test.YtjjhlccjfdcfcaaGreatDoorPZ6
set_option linter.unusedVariables false
set_option linter.unusedSimpArgs false
set_option maxRecDepth 100000
set_option maxHeartbeats 40000000
namespace Go.Proofs.XC
open Go Go.RowKit
/-! ### The distance of two texts, by recursion -/
def ed : Str → Str → Int
  | [], y => (y.length : Int)
  | _ :: x, [] => (x.length : Int) + 1
  | c :: x, d :: y => min3 (if c = d then ed x y else ed x y + 1) (ed (c :: x) y + 1) (ed x (d :: y) + 1)
termination_by x y => x.length + y.length
/-! #### The rows tell it -/
end Go.Proofs.XC
