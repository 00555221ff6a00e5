/-
  DeskKnown: the tie of its variables, in pieces. Some of the facts. No conditions.
-/
import Derived.Test.YtgcineegnihcmaaGreatDoorKnT0
namespace Go.Proofs.YtgcineegnihcmaaGreatDoor
open Go
theorem tn : varsNamedLaterB Tryz.prog (varsId Tryz.prog) tieL = true := by kernel_rfl
end Go.Proofs.YtgcineegnihcmaaGreatDoor
