/-
  The closed statement CrashKnown holds: the abstract machine AM, run by the kernel over the program's own text, answers true; what it answers the model answers. No conditions.
-/
import Derived.Test.YtjmdfeaghnoehaaGreatDoorRows
import Derived.Test.YtjmdfeaghnoehaaGreatDoorKnRun
import Derived.KernelRfl
import Derived.WalkKit
import Derived.Test.YtjmdfeaghnoehaaGreatDoorCards
import Derived.SevenTiedAt
import Derived.ProofKit
import Derived.OpenShut
import Derived.MakeChecks
import Derived.LaidMore
import Derived.Stop.Joined
import Derived.Test.YtjmdfeaghnoehaaGreatDoorKnLift
import Derived.Test.YtjmdfeaghnoehaaGreatDoorKnOa
import Derived.Test.YtjmdfeaghnoehaaGreatDoorKnOb
import Derived.Test.YtjmdfeaghnoehaaGreatDoorKnOc
import Derived.Test.YtjmdfeaghnoehaaGreatDoorKnOd
import Derived.Test.YtjmdfeaghnoehaaGreatDoorKnOe
import Derived.Test.YtjmdfeaghnoehaaGreatDoorKnOf
import Derived.Test.YtjmdfeaghnoehaaGreatDoorKnOg
namespace Go.Proofs.YtjmdfeaghnoehaaGreatDoor.crashKnown
open Go.ChangeShapes Go.WideMaps Go.WideElems Go.WideShapes Go.ChangeAt Go.RowKit Go.Am
set_option linter.unusedVariables false      -- a walk need not use every 'w<i>' (that an integer argument fits its kind)

theorem joined : joinedFacts Tryz.pinned.checked.prog 3 Tryz.f3 Rows.crashKnownSpec Rows.crashKnownRow = true := by
  unfold joinedFacts
  rw [jo_laid, jo_rowed, jo_in, jo_vars, jo_unf, jo_rec, jo_pk, jo_s, jo_sk, jo_nt, jo_wf]
  kernel_rfl
theorem over : Rows.crashKnownRow.holds Tryz.pinned (OpenSpec.ofChange Rows.crashKnownSpec) :=
  OpenClaim.holds_of_wide 3 Tryz.f3 rfl rfl rfl rfl rfl rfl rfl ⟨rfl, rfl, rfl, rfl, rfl⟩ rfl rfl rfl rfl rfl (by kernel_rfl) Tryz.func3 joined
    (of_decide_eq_true (by kernel_rfl)) (by unfold Func.isWrapper; first | (rw [if_pos (by decide +kernel)]; kernel_rfl) | (rw [if_neg (by decide +kernel)]; exact ⟨rfl, rfl⟩))
    (fun os started H enc _ => lifted os started H enc)

/-- The row's statement. -/
theorem row_holds : Rows.CrashKnownSaid :=
  over
end Go.Proofs.YtjmdfeaghnoehaaGreatDoor.crashKnown
