/- Plain laws of the plain functions: no program, no memory. By AI agents; no person has read it. -/
import Derived.Test.YtenkalmmdamfgaaGreatDoorPZ5
set_option linter.unusedVariables false
set_option linter.unusedSimpArgs false
set_option maxRecDepth 100000
set_option maxHeartbeats 40000000
namespace Go.Proofs.XC
open Go Go.RowKit
/-! ### The first best one -/
def arg {α : Type} (c : Int → Int → Bool) (f : α → Int) : List α → Nat → Int × Int → Int × Int
  | [], _, s => s
  | x :: l, j, s => arg c f l (j + 1) (if c (f x) s.2 then ((j : Int), f x) else s)
end Go.Proofs.XC
