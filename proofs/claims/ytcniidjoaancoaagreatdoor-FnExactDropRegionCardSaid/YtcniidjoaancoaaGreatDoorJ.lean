/- Closed facts of the whole given program. By AI agents; no person has read it. -/
import Derived.Test.YtcniidjoaancoaaGreatDoorTie
import Derived.Test.YtcniidjoaancoaaGreatDoorCards
import Derived.JoinedOf
import Derived.KernelRfl
set_option linter.unusedVariables false
set_option linter.unusedSimpArgs false
set_option maxRecDepth 100000
set_option maxHeartbeats 40000000
set_option maxHeartbeats 40000000
open _root_.Go.Proofs.Tryz
namespace Go.Proofs.YtcniidjoaancoaaGreatDoor
open Go
theorem j_laid : laidOutB prog = true := by kernel_rfl
theorem j_maps : mapsRowed prog = true := by kernel_rfl
theorem j_keys : (Rows.fnExactMostPairsRow.plainKeys == prog.plainKeys) = true := by kernel_rfl
theorem j_heard : prog.stopsHeard = true := by kernel_rfl
theorem j_enter : prog.mayEnter = true := by kernel_rfl
theorem j_lift : (Rows.fnExactMostPairsRow.lifted == prog.liftsFinal) = true := by kernel_rfl
theorem j_make : (prog.make == some Rows.fnExactMostPairsRow.make) = true := by kernel_rfl
theorem j_main : Tryz.pinned.checked.prog.mainIs = some (true, "4872224e0390e149681f94f385b4fc41857404169a93fd2d1b060e64042376dd".toList) := by kernel_rfl
theorem j_looks : true = Tryz.pinned.checked.prog.looks [] := by kernel_rfl
end Go.Proofs.YtcniidjoaancoaaGreatDoor
