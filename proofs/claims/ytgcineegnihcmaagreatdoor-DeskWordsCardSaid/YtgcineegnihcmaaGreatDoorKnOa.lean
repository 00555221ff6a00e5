/-
  The statement DeskWords holds: the abstract machine AM, run symbolically over the program's own text, answers true; what it answers the model answers. No conditions.
-/
import Derived.Test.YtgcineegnihcmaaGreatDoorRows
import Derived.Test.YtgcineegnihcmaaGreatDoorDswA
import Derived.Test.YtgcineegnihcmaaGreatDoorKnCut0
import Derived.KernelRfl
import Derived.WalkKit
import Derived.Test.YtgcineegnihcmaaGreatDoorCards
import Derived.SevenTiedAt
import Derived.ProofKit
import Derived.OpenShut
import Derived.MakeChecks
import Derived.LaidMore
import Derived.Lay
import Derived.Stop.Joined
import Derived.Test.YtgcineegnihcmaaGreatDoorKnO1
import Derived.Test.YtgcineegnihcmaaGreatDoorKnO3
import Derived.Test.YtgcineegnihcmaaGreatDoorKnO4
namespace Go.Proofs.YtgcineegnihcmaaGreatDoor.deskWords
open Go.ChangeShapes Go.WideMaps Go.WideElems Go.WideShapes Go.ChangeAt Go.RowKit Go.Am
set_option linter.unusedVariables false      -- a walk need not use every 'w<i>' (that an integer argument fits its kind)

theorem jo_laid : laidOutB Tryz.pinned.checked.prog = true := by
  have hn := of_decide_eq_true lo_n
  unfold laidOutB
  rw [Bool.and_eq_true, Bool.and_eq_true]
  refine ⟨⟨List.all_eq_true.2 fun t ht => ?_, lo_4⟩, lo_5⟩
  rw [List.mem_range, hn] at ht
  by_cases h1 : t < 247
  · exact List.all_eq_true.1 lo_1 t (List.mem_range.2 h1)
  · by_cases h2 : t < 494
    · have := List.all_eq_true.1 lo_2 (t - 247) (List.mem_range.2 (by omega))
      rwa [show 247 + (t - 247) = t by omega] at this
    · have := List.all_eq_true.1 lo_3 (t - 494) (List.mem_range.2 (by omega))
      rwa [show 494 + (t - 494) = t by omega] at this
end Go.Proofs.YtgcineegnihcmaaGreatDoor.deskWords
