/-
  DeskKnown: its run in pieces. What some functions answer: conditions stand in each theorem.
-/
import Derived.Test.YtgcineegnihcmaaGreatDoorKnMemo3
import Derived.KernelRfl
import Derived.Test.YtgcineegnihcmaaGreatDoorAmD
namespace Go.Proofs.YtgcineegnihcmaaGreatDoor.kn
open Go.Am
set_option linter.unusedSimpArgs false
set_option maxRecDepth 100000
theorem mm5_0 (ts : Nat → TypeId) : memoG tbM9 1000000 5 gm5 11 ts [([], (.bool true))] = true := by kernel_rfl
end Go.Proofs.YtgcineegnihcmaaGreatDoor.kn
