/-
  The closed statement DictKnown holds: the abstract machine AM, run by the kernel over the program's own text, answers true; what it answers the model answers. No conditions.
-/
import Derived.Test.YtbgbjdihdihmhaaGreatDoorRows
import Derived.Test.YtbgbjdihdihmhaaGreatDoorKnRun
import Derived.KernelRfl
import Derived.WalkKit
import Derived.Test.YtbgbjdihdihmhaaGreatDoorCards
import Derived.SevenTiedAt
import Derived.ProofKit
import Derived.OpenShut
import Derived.MakeChecks
import Derived.LaidMore
import Derived.Stop.Joined
import Derived.Test.YtbgbjdihdihmhaaGreatDoorKnO1
import Derived.Test.YtbgbjdihdihmhaaGreatDoorKnO3
import Derived.Test.YtbgbjdihdihmhaaGreatDoorKnO4
namespace Go.Proofs.YtbgbjdihdihmhaaGreatDoor.dictKnown
open Go.ChangeShapes Go.WideMaps Go.WideElems Go.WideShapes Go.ChangeAt Go.RowKit Go.Am
set_option linter.unusedVariables false      -- a walk need not use every 'w<i>' (that an integer argument fits its kind)

theorem jo_laid : laidOutB Tryz.pinned.checked.prog = true := by
  have hn := of_decide_eq_true lo_n
  unfold laidOutB
  rw [Bool.and_eq_true, Bool.and_eq_true]
  refine ⟨⟨List.all_eq_true.2 fun t ht => ?_, lo_4⟩, lo_5⟩
  rw [List.mem_range, hn] at ht
  by_cases h1 : t < 220
  · exact List.all_eq_true.1 lo_1 t (List.mem_range.2 h1)
  · by_cases h2 : t < 440
    · have := List.all_eq_true.1 lo_2 (t - 220) (List.mem_range.2 (by omega))
      rwa [show 220 + (t - 220) = t by omega] at this
    · have := List.all_eq_true.1 lo_3 (t - 440) (List.mem_range.2 (by omega))
      rwa [show 440 + (t - 440) = t by omega] at this
end Go.Proofs.YtbgbjdihdihmhaaGreatDoor.dictKnown
