/-
  The closed statement DeskKnown holds: the abstract machine AM, run by the kernel over the program's own text, answers true; what it answers the model answers. No conditions.
-/
import Derived.Test.YtgcineegnihcmaaGreatDoorRows
import Derived.Test.YtgcineegnihcmaaGreatDoorKnRun
import Derived.KernelRfl
import Derived.WalkKit
import Derived.Test.YtgcineegnihcmaaGreatDoorCards
import Derived.SevenTiedAt
import Derived.ProofKit
import Derived.OpenShut
import Derived.MakeChecks
import Derived.LaidMore
import Derived.Lay
import Derived.Stop.Joined
namespace Go.Proofs.YtgcineegnihcmaaGreatDoor.deskKnown
open Go.ChangeShapes Go.WideMaps Go.WideElems Go.WideShapes Go.ChangeAt Go.RowKit Go.Am
set_option linter.unusedVariables false      -- a walk need not use every 'w<i>' (that an integer argument fits its kind)

theorem jo_nt : (namedTie Tryz.pinned.checked.prog Rows.deskKnownRow.named Rows.deskKnownSpec.vars) = true := by kernel_rfl
theorem jo_wf : (Rows.deskKnownRow.wf (OpenSpec.ofChange Rows.deskKnownSpec)) = true := by kernel_rfl
theorem lo_1 : ((List.range 247).all (rowFine Tryz.pinned.checked.prog)) = true := by kernel_rfl
theorem lo_n : (decide (Tryz.pinned.checked.prog.types.size = 743)) = true := by kernel_rfl
theorem lo_2 : ((List.range 247).all fun i => rowFine Tryz.pinned.checked.prog (247 + i)) = true := by kernel_rfl
end Go.Proofs.YtgcineegnihcmaaGreatDoor.deskKnown
