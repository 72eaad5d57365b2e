/- Closed facts of the whole given program. By AI agents; no person has read it. -/
import Derived.Test.YtjnablhfhdedfaaGreatDoorTie
import Derived.Test.YtjnablhfhdedfaaGreatDoorCards
import Derived.JoinedOf
import Derived.KernelRfl
set_option linter.unusedVariables false
set_option linter.unusedSimpArgs false
set_option maxRecDepth 100000
set_option maxHeartbeats 40000000
set_option maxHeartbeats 40000000
open _root_.Go.Proofs.Tryz
namespace Go.Proofs.YtjnablhfhdedfaaGreatDoor
open Go
theorem j_laid : laidOutB prog = true := by kernel_rfl
theorem j_maps : mapsRowed prog = true := by kernel_rfl
theorem j_keys : (Rows.fnExactMostBrokenRow.plainKeys == prog.plainKeys) = true := by kernel_rfl
theorem j_heard : prog.stopsHeard = true := by kernel_rfl
theorem j_enter : prog.mayEnter = true := by kernel_rfl
theorem j_lift : (Rows.fnExactMostBrokenRow.lifted == prog.liftsFinal) = true := by kernel_rfl
theorem j_make : (prog.make == some Rows.fnExactMostBrokenRow.make) = true := by kernel_rfl
theorem j_main : Tryz.pinned.checked.prog.mainIs = some (true, "ef7b29719bf812c803c1428a612008501d3b7a07a770b3783258b2977aed4d05".toList) := by kernel_rfl
theorem j_looks : true = Tryz.pinned.checked.prog.looks [] := by kernel_rfl
end Go.Proofs.YtjnablhfhdedfaaGreatDoor
