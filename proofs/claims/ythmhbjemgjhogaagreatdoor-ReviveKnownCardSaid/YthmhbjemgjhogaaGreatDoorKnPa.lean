/-
  The closed statement ReviveKnown holds: the abstract machine AM, run by the kernel over the program's own text, answers true; what it answers the model answers. No conditions.
-/
import Derived.Test.YthmhbjemgjhogaaGreatDoorRows
import Derived.Test.YthmhbjemgjhogaaGreatDoorKnEnd
import Derived.KernelRfl
import Derived.WalkKit
import Derived.Test.YthmhbjemgjhogaaGreatDoorCards
import Derived.Test.YthmhbjemgjhogaaGreatDoorTie
import Derived.SevenTiedAt
import Derived.ProofKit
import Derived.OpenShut
import Derived.MakeChecks
import Derived.LaidMore
import Derived.Stop.Joined
namespace Go.Proofs.YthmhbjemgjhogaaGreatDoor.reviveKnown
open Go.ChangeShapes Go.WideMaps Go.WideElems Go.WideShapes Go.ChangeAt Go.RowKit Go.Am
set_option linter.unusedVariables false      -- a walk need not use every 'w<i>' (that an integer argument fits its kind)

theorem pc_w : Rows.reviveKnownRow.wfByText (OpenSpec.ofChange Rows.reviveKnownSpec) = true := by kernel_rfl
theorem pc_m : Tryz.pinned.checked.prog.mainIs = some ((true, "f45502d7577121fa5a56d7c415c2cbfdf52ff465956eb9b57d30df0d6e66ce2d").1, (true, "f45502d7577121fa5a56d7c415c2cbfdf52ff465956eb9b57d30df0d6e66ce2d").2.toList) := by kernel_rfl
theorem pc_f : Tryz.pinned.checked.prog.funcNamed "cedilla/cedillalaw29.ReviveKnown" = some 3 := by kernel_rfl
end Go.Proofs.YthmhbjemgjhogaaGreatDoor.reviveKnown
