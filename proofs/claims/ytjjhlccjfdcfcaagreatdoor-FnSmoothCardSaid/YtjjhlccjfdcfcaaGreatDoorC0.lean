/- Contracts: each function of the given program, called where its plain function gives an answer, returns just that answer and changes nothing that was there. By AI agents; no person has read it. -/
import Derived.Test.YtjjhlccjfdcfcaaGreatDoorMir
set_option linter.unusedVariables false
set_option linter.unusedSimpArgs false
set_option maxRecDepth 100000
set_option maxHeartbeats 40000000
namespace Go.Proofs.XC
open Go Go.RowKit
open Tryz

end Go.Proofs.XC
