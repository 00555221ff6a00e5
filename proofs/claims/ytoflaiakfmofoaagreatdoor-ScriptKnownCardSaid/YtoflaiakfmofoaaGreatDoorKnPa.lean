/-
  The closed statement ScriptKnown holds: the abstract machine AM, run by the kernel over the program's own text, answers true; what it answers the model answers. No conditions.
-/
import Derived.Test.YtoflaiakfmofoaaGreatDoorRows
import Derived.Test.YtoflaiakfmofoaaGreatDoorKnRun
import Derived.KernelRfl
import Derived.WalkKit
import Derived.Test.YtoflaiakfmofoaaGreatDoorCards
import Derived.SevenTiedAt
import Derived.ProofKit
import Derived.OpenShut
import Derived.MakeChecks
import Derived.LaidMore
import Derived.Stop.Joined
namespace Go.Proofs.YtoflaiakfmofoaaGreatDoor.scriptKnown
open Go.ChangeShapes Go.WideMaps Go.WideElems Go.WideShapes Go.ChangeAt Go.RowKit Go.Am
set_option linter.unusedVariables false      -- a walk need not use every 'w<i>' (that an integer argument fits its kind)

theorem pc_w : Rows.scriptKnownRow.wfByText (OpenSpec.ofChange Rows.scriptKnownSpec) = true := by kernel_rfl
theorem pc_m : Tryz.pinned.checked.prog.mainIs = some ((true, "b075ee0f842d3ce559e4bb5d738be64c5fd55259bab9e6657b1cb19e734bc97c").1, (true, "b075ee0f842d3ce559e4bb5d738be64c5fd55259bab9e6657b1cb19e734bc97c").2.toList) := by kernel_rfl
theorem pc_f : Tryz.pinned.checked.prog.funcNamed "cedilla/cedillalaw34.ScriptKnown" = some 3 := by kernel_rfl
end Go.Proofs.YtoflaiakfmofoaaGreatDoor.scriptKnown
