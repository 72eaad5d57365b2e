/- Closed facts of the whole given program. By AI agents; no person has read it. -/
import Derived.Test.YtenkalmmdamfgaaGreatDoorTie
import Derived.Test.YtenkalmmdamfgaaGreatDoorCards
import Derived.JoinedOf
import Derived.KernelRfl
set_option linter.unusedVariables false
set_option linter.unusedSimpArgs false
set_option maxRecDepth 100000
set_option maxHeartbeats 40000000
set_option maxHeartbeats 40000000
open _root_.Go.Proofs.Tryz
namespace Go.Proofs.YtenkalmmdamfgaaGreatDoor
open Go
theorem j_laid : laidOutB prog = true := by kernel_rfl
theorem j_maps : mapsRowed prog = true := by kernel_rfl
theorem j_keys : (Rows.fnCompoundsRow.plainKeys == prog.plainKeys) = true := by kernel_rfl
theorem j_heard : prog.stopsHeard = true := by kernel_rfl
theorem j_enter : prog.mayEnter = true := by kernel_rfl
theorem j_lift : (Rows.fnCompoundsRow.lifted == prog.liftsFinal) = true := by kernel_rfl
theorem j_make : (prog.make == some Rows.fnCompoundsRow.make) = true := by kernel_rfl
theorem j_main : Tryz.pinned.checked.prog.mainIs = some (true, "16c56525acf0cb592672e5705224c107b236539b79288aae58721431fc458920".toList) := by kernel_rfl
theorem j_looks : true = Tryz.pinned.checked.prog.looks [] := by kernel_rfl
end Go.Proofs.YtenkalmmdamfgaaGreatDoor
