/- Closed facts of the whole given program. By AI agents; no person has read it. -/
import Derived.Test.YtjjhlccjfdcfcaaGreatDoorTie
import Derived.Test.YtjjhlccjfdcfcaaGreatDoorCards
import Derived.JoinedOf
import Derived.KernelRfl
set_option linter.unusedVariables false
set_option linter.unusedSimpArgs false
set_option maxRecDepth 100000
set_option maxHeartbeats 40000000
set_option maxHeartbeats 40000000
open _root_.Go.Proofs.Tryz
namespace Go.Proofs.YtjjhlccjfdcfcaaGreatDoor
open Go
theorem j_laid : laidOutB prog = true := by kernel_rfl
theorem j_maps : mapsRowed prog = true := by kernel_rfl
theorem j_keys : (Rows.fnExactSignFaultRow.plainKeys == prog.plainKeys) = true := by kernel_rfl
theorem j_heard : prog.stopsHeard = true := by kernel_rfl
theorem j_enter : prog.mayEnter = true := by kernel_rfl
theorem j_lift : (Rows.fnExactSignFaultRow.lifted == prog.liftsFinal) = true := by kernel_rfl
theorem j_make : (prog.make == some Rows.fnExactSignFaultRow.make) = true := by kernel_rfl
theorem j_main : Tryz.pinned.checked.prog.mainIs = some (true, "fb4ec8b34aa413e2e34b6476366217368e6897ab8b7186c31ef02cae702efca8".toList) := by kernel_rfl
theorem j_looks : true = Tryz.pinned.checked.prog.looks [] := by kernel_rfl
end Go.Proofs.YtjjhlccjfdcfcaaGreatDoor
