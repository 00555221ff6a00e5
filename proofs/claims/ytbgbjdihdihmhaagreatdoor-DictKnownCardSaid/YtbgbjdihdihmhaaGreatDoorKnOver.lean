/-
  The closed statement DictKnown holds: the abstract machine AM, run by the kernel over the program's own text, answers true; what it answers the model answers. No conditions.
-/
import Derived.Test.YtbgbjdihdihmhaaGreatDoorRows
import Derived.Test.YtbgbjdihdihmhaaGreatDoorKnRun
import Derived.KernelRfl
import Derived.WalkKit
import Derived.Test.YtbgbjdihdihmhaaGreatDoorCards
import Derived.SevenTiedAt
import Derived.ProofKit
import Derived.OpenShut
import Derived.MakeChecks
import Derived.LaidMore
import Derived.Stop.Joined
import Derived.Test.YtbgbjdihdihmhaaGreatDoorKnLift
import Derived.Test.YtbgbjdihdihmhaaGreatDoorKnOa
import Derived.Test.YtbgbjdihdihmhaaGreatDoorKnOb
import Derived.Test.YtbgbjdihdihmhaaGreatDoorKnOc
import Derived.Test.YtbgbjdihdihmhaaGreatDoorKnOd
import Derived.Test.YtbgbjdihdihmhaaGreatDoorKnOe
import Derived.Test.YtbgbjdihdihmhaaGreatDoorKnOf
import Derived.Test.YtbgbjdihdihmhaaGreatDoorKnOg
namespace Go.Proofs.YtbgbjdihdihmhaaGreatDoor.dictKnown
open Go.ChangeShapes Go.WideMaps Go.WideElems Go.WideShapes Go.ChangeAt Go.RowKit Go.Am
set_option linter.unusedVariables false      -- a walk need not use every 'w<i>' (that an integer argument fits its kind)

theorem joined : joinedFacts Tryz.pinned.checked.prog 3 Tryz.f3 Rows.dictKnownSpec Rows.dictKnownRow = true := by
  unfold joinedFacts
  rw [jo_laid, jo_rowed, jo_in, jo_vars, jo_unf, jo_rec, jo_pk, jo_s, jo_sk, jo_nt, jo_wf]
  kernel_rfl
theorem over : Rows.dictKnownRow.holds Tryz.pinned (OpenSpec.ofChange Rows.dictKnownSpec) :=
  OpenClaim.holds_of_wide 3 Tryz.f3 rfl rfl rfl rfl rfl rfl rfl ⟨rfl, rfl, rfl, rfl, rfl⟩ rfl rfl rfl rfl rfl (by kernel_rfl) Tryz.func3 joined
    (of_decide_eq_true (by kernel_rfl)) (by unfold Func.isWrapper; first | (rw [if_pos (by decide +kernel)]; kernel_rfl) | (rw [if_neg (by decide +kernel)]; exact ⟨rfl, rfl⟩))
    (fun os started H enc _ => lifted os started H enc)

/-- The row's statement. -/
theorem row_holds : Rows.DictKnownSaid :=
  over
end Go.Proofs.YtbgbjdihdihmhaaGreatDoor.dictKnown
