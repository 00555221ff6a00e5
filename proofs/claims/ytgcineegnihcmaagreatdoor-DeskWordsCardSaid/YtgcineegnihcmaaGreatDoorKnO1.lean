/-
  The statement DeskWords holds: the abstract machine AM, run symbolically over the program's own text, answers true; what it answers the model answers. No conditions.
-/
import Derived.Test.YtgcineegnihcmaaGreatDoorRows
import Derived.Test.YtgcineegnihcmaaGreatDoorDswA
import Derived.Test.YtgcineegnihcmaaGreatDoorKnCut0
import Derived.KernelRfl
import Derived.WalkKit
import Derived.Test.YtgcineegnihcmaaGreatDoorCards
import Derived.SevenTiedAt
import Derived.ProofKit
import Derived.OpenShut
import Derived.MakeChecks
import Derived.LaidMore
import Derived.Lay
import Derived.Stop.Joined
namespace Go.Proofs.YtgcineegnihcmaaGreatDoor.deskWords
open Go.ChangeShapes Go.WideMaps Go.WideElems Go.WideShapes Go.ChangeAt Go.RowKit Go.Am
set_option linter.unusedVariables false      -- a walk need not use every 'w<i>' (that an integer argument fits its kind)

theorem jo_nt : (namedTie Tryz.pinned.checked.prog Rows.deskWordsRow.named Rows.deskWordsSpec.vars) = true := by kernel_rfl
theorem jo_wf : (Rows.deskWordsRow.wf (OpenSpec.ofChange Rows.deskWordsSpec)) = true := by kernel_rfl
theorem lo_1 : ((List.range 247).all (rowFine Tryz.pinned.checked.prog)) = true := by kernel_rfl
theorem lo_n : (decide (Tryz.pinned.checked.prog.types.size = 743)) = true := by kernel_rfl
theorem lo_2 : ((List.range 247).all fun i => rowFine Tryz.pinned.checked.prog (247 + i)) = true := by kernel_rfl
end Go.Proofs.YtgcineegnihcmaaGreatDoor.deskWords
