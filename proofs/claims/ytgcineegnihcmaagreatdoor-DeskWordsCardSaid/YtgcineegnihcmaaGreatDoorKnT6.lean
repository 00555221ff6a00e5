/-
  DeskKnown: the tie of its variables, in pieces. Some of the facts. No conditions.
-/
import Derived.Test.YtgcineegnihcmaaGreatDoorKnT0
namespace Go.Proofs.YtgcineegnihcmaaGreatDoor
open Go
theorem t1 : ∀ os tape, (DataW.laidRun Tryz.prog (varsWorld Tryz.prog 400 (varsId Tryz.prog) os tape).memory 8 (tieL.map (·.1))).map (·.1) = some tieL := fun _ _ => by kernel_rfl
end Go.Proofs.YtgcineegnihcmaaGreatDoor
