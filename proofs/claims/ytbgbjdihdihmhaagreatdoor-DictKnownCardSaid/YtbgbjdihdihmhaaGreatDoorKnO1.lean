/-
  The closed statement DictKnown holds: the abstract machine AM, run by the kernel over the program's own text, answers true; what it answers the model answers. No conditions.
-/
import Derived.Test.YtbgbjdihdihmhaaGreatDoorRows
import Derived.Test.YtbgbjdihdihmhaaGreatDoorKnRun
import Derived.KernelRfl
import Derived.WalkKit
import Derived.Test.YtbgbjdihdihmhaaGreatDoorCards
import Derived.SevenTiedAt
import Derived.ProofKit
import Derived.OpenShut
import Derived.MakeChecks
import Derived.LaidMore
import Derived.Stop.Joined
namespace Go.Proofs.YtbgbjdihdihmhaaGreatDoor.dictKnown
open Go.ChangeShapes Go.WideMaps Go.WideElems Go.WideShapes Go.ChangeAt Go.RowKit Go.Am
set_option linter.unusedVariables false      -- a walk need not use every 'w<i>' (that an integer argument fits its kind)

theorem jo_nt : (namedTie Tryz.pinned.checked.prog Rows.dictKnownRow.named Rows.dictKnownSpec.vars) = true := by kernel_rfl
theorem jo_wf : (Rows.dictKnownRow.wf (OpenSpec.ofChange Rows.dictKnownSpec)) = true := by kernel_rfl
theorem lo_1 : ((List.range 220).all (rowFine Tryz.pinned.checked.prog)) = true := by kernel_rfl
theorem lo_n : (decide (Tryz.pinned.checked.prog.types.size = 661)) = true := by kernel_rfl
theorem lo_2 : ((List.range 220).all fun i => rowFine Tryz.pinned.checked.prog (220 + i)) = true := by kernel_rfl
end Go.Proofs.YtbgbjdihdihmhaaGreatDoor.dictKnown
