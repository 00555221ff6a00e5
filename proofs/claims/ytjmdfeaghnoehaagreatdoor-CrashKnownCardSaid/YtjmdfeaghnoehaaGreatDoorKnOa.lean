/-
  The closed statement CrashKnown holds: the abstract machine AM, run by the kernel over the program's own text, answers true; what it answers the model answers. No conditions.
-/
import Derived.Test.YtjmdfeaghnoehaaGreatDoorRows
import Derived.Test.YtjmdfeaghnoehaaGreatDoorKnRun
import Derived.KernelRfl
import Derived.WalkKit
import Derived.Test.YtjmdfeaghnoehaaGreatDoorCards
import Derived.SevenTiedAt
import Derived.ProofKit
import Derived.OpenShut
import Derived.MakeChecks
import Derived.LaidMore
import Derived.Stop.Joined
import Derived.Test.YtjmdfeaghnoehaaGreatDoorKnO1
import Derived.Test.YtjmdfeaghnoehaaGreatDoorKnO3
import Derived.Test.YtjmdfeaghnoehaaGreatDoorKnO4
namespace Go.Proofs.YtjmdfeaghnoehaaGreatDoor.crashKnown
open Go.ChangeShapes Go.WideMaps Go.WideElems Go.WideShapes Go.ChangeAt Go.RowKit Go.Am
set_option linter.unusedVariables false      -- a walk need not use every 'w<i>' (that an integer argument fits its kind)

theorem jo_laid : laidOutB Tryz.pinned.checked.prog = true := by
  have hn := of_decide_eq_true lo_n
  unfold laidOutB
  rw [Bool.and_eq_true, Bool.and_eq_true]
  refine ⟨⟨List.all_eq_true.2 fun t ht => ?_, lo_4⟩, lo_5⟩
  rw [List.mem_range, hn] at ht
  by_cases h1 : t < 233
  · exact List.all_eq_true.1 lo_1 t (List.mem_range.2 h1)
  · by_cases h2 : t < 466
    · have := List.all_eq_true.1 lo_2 (t - 233) (List.mem_range.2 (by omega))
      rwa [show 233 + (t - 233) = t by omega] at this
    · have := List.all_eq_true.1 lo_3 (t - 466) (List.mem_range.2 (by omega))
      rwa [show 466 + (t - 466) = t by omega] at this
end Go.Proofs.YtjmdfeaghnoehaaGreatDoor.crashKnown
