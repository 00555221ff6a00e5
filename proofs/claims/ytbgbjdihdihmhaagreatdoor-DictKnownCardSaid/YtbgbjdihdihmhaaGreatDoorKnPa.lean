/-
  The closed statement DictKnown holds: the abstract machine AM, run by the kernel over the program's own text, answers true; what it answers the model answers. No conditions.
-/
import Derived.Test.YtbgbjdihdihmhaaGreatDoorRows
import Derived.Test.YtbgbjdihdihmhaaGreatDoorKnRun
import Derived.KernelRfl
import Derived.WalkKit
import Derived.Test.YtbgbjdihdihmhaaGreatDoorCards
import Derived.SevenTiedAt
import Derived.ProofKit
import Derived.OpenShut
import Derived.MakeChecks
import Derived.LaidMore
import Derived.Stop.Joined
namespace Go.Proofs.YtbgbjdihdihmhaaGreatDoor.dictKnown
open Go.ChangeShapes Go.WideMaps Go.WideElems Go.WideShapes Go.ChangeAt Go.RowKit Go.Am
set_option linter.unusedVariables false      -- a walk need not use every 'w<i>' (that an integer argument fits its kind)

theorem pc_w : Rows.dictKnownRow.wfByText (OpenSpec.ofChange Rows.dictKnownSpec) = true := by kernel_rfl
theorem pc_m : Tryz.pinned.checked.prog.mainIs = some ((true, "69a704cc2b5b183ed87e63a58543adea7432ecacc4657994f7aa78c4837ed1ad").1, (true, "69a704cc2b5b183ed87e63a58543adea7432ecacc4657994f7aa78c4837ed1ad").2.toList) := by kernel_rfl
theorem pc_f : Tryz.pinned.checked.prog.funcNamed "cedilla/cedillalaw31.DictKnown" = some 3 := by kernel_rfl
end Go.Proofs.YtbgbjdihdihmhaaGreatDoor.dictKnown
