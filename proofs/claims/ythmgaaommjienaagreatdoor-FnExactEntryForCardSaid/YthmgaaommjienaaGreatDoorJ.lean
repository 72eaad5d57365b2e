/- Closed facts of the whole given program. By AI agents; no person has read it. -/
import Derived.Test.YthmgaaommjienaaGreatDoorTie
import Derived.Test.YthmgaaommjienaaGreatDoorCards
import Derived.JoinedOf
import Derived.KernelRfl
set_option linter.unusedVariables false
set_option linter.unusedSimpArgs false
set_option maxRecDepth 100000
set_option maxHeartbeats 40000000
set_option maxHeartbeats 40000000
open _root_.Go.Proofs.Tryz
namespace Go.Proofs.YthmgaaommjienaaGreatDoor
open Go
theorem j_laid : laidOutB prog = true := by kernel_rfl
theorem j_maps : mapsRowed prog = true := by kernel_rfl
theorem j_keys : (Rows.fnExactPatternOfRow.plainKeys == prog.plainKeys) = true := by kernel_rfl
theorem j_heard : prog.stopsHeard = true := by kernel_rfl
theorem j_enter : prog.mayEnter = true := by kernel_rfl
theorem j_lift : (Rows.fnExactPatternOfRow.lifted == prog.liftsFinal) = true := by kernel_rfl
theorem j_make : (prog.make == some Rows.fnExactPatternOfRow.make) = true := by kernel_rfl
theorem j_main : Tryz.pinned.checked.prog.mainIs = some (true, "059d9ade3de631e4f8d264696f12e9cbfefd5e901851c41965b1b194c3c02d51".toList) := by kernel_rfl
theorem j_looks : true = Tryz.pinned.checked.prog.looks [] := by kernel_rfl
end Go.Proofs.YthmgaaommjienaaGreatDoor
