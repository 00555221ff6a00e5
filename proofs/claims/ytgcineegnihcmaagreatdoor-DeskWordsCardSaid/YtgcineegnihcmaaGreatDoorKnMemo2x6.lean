/-
  DeskKnown: its run in pieces. What some functions answer: conditions stand in each theorem.
-/
import Derived.Test.YtgcineegnihcmaaGreatDoorKnMemo2
import Derived.KernelRfl
import Derived.Test.YtgcineegnihcmaaGreatDoorAmD
namespace Go.Proofs.YtgcineegnihcmaaGreatDoor.kn
open Go.Am
set_option linter.unusedSimpArgs false
set_option maxRecDepth 100000
theorem mm9_6 (ts : Nat → TypeId) : memoG tbM377 1000000 9 gm9 11 ts [([(vs [])], (vs []))] = true := by kernel_rfl
end Go.Proofs.YtgcineegnihcmaaGreatDoor.kn
