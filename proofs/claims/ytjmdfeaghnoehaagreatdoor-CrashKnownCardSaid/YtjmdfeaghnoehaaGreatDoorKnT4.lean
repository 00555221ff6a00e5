/-
  CrashKnown: the tie of its variables, in pieces. Some of the facts. No conditions.
-/
import Derived.Test.YtjmdfeaghnoehaaGreatDoorKnT0
namespace Go.Proofs.YtjmdfeaghnoehaaGreatDoor
open Go
theorem tn : varsNamedLaterB Tryz.prog (varsId Tryz.prog) tieL = true := by kernel_rfl
end Go.Proofs.YtjmdfeaghnoehaaGreatDoor
