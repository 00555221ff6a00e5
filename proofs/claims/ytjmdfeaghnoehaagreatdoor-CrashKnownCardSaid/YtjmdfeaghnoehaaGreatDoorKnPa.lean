/-
  The closed statement CrashKnown holds: the abstract machine AM, run by the kernel over the program's own text, answers true; what it answers the model answers. No conditions.
-/
import Derived.Test.YtjmdfeaghnoehaaGreatDoorRows
import Derived.Test.YtjmdfeaghnoehaaGreatDoorKnRun
import Derived.KernelRfl
import Derived.WalkKit
import Derived.Test.YtjmdfeaghnoehaaGreatDoorCards
import Derived.SevenTiedAt
import Derived.ProofKit
import Derived.OpenShut
import Derived.MakeChecks
import Derived.LaidMore
import Derived.Stop.Joined
namespace Go.Proofs.YtjmdfeaghnoehaaGreatDoor.crashKnown
open Go.ChangeShapes Go.WideMaps Go.WideElems Go.WideShapes Go.ChangeAt Go.RowKit Go.Am
set_option linter.unusedVariables false      -- a walk need not use every 'w<i>' (that an integer argument fits its kind)

theorem pc_w : Rows.crashKnownRow.wfByText (OpenSpec.ofChange Rows.crashKnownSpec) = true := by kernel_rfl
theorem pc_m : Tryz.pinned.checked.prog.mainIs = some ((true, "5606f08b01c3226f9c4c654d50120028496671cf7aeb1da255f94e261e26319b").1, (true, "5606f08b01c3226f9c4c654d50120028496671cf7aeb1da255f94e261e26319b").2.toList) := by kernel_rfl
theorem pc_f : Tryz.pinned.checked.prog.funcNamed "cedilla/cedillalaw33.CrashKnown" = some 3 := by kernel_rfl
end Go.Proofs.YtjmdfeaghnoehaaGreatDoor.crashKnown
