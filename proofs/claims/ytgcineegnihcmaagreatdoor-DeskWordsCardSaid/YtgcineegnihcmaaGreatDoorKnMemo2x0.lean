/-
  DeskKnown: its run in pieces. What some functions answer: conditions stand in each theorem.
-/
import Derived.Test.YtgcineegnihcmaaGreatDoorKnMemo2
import Derived.KernelRfl
import Derived.Test.YtgcineegnihcmaaGreatDoorAmD
namespace Go.Proofs.YtgcineegnihcmaaGreatDoor.kn
open Go.Am
set_option linter.unusedSimpArgs false
set_option maxRecDepth 100000
theorem mm9_0 (ts : Nat → TypeId) : memoG tbM377 1000000 9 gm9 11 ts [([(vs [102, 105, 108, 101, 115, 10, 97, 100, 100, 32, 37, 54, 49, 37, 50, 48, 98, 32, 52, 50, 57, 52, 57, 54, 55, 50, 57, 53, 10, 119, 111, 114, 100, 115, 10, 102, 105, 110, 100, 32, 37, 10, 110, 101, 97, 114, 32, 37, 51, 97, 32, 50, 32, 50, 10, 102, 105, 108, 101, 115, 10, 102, 108, 117, 115, 104, 10, 114, 101, 109, 111, 118, 101, 32, 97, 37, 50, 48, 98, 10, 119, 101, 105, 103, 104, 32, 113, 32, 49, 10, 119, 111, 114, 100, 115, 10, 112, 97, 114, 116, 115])], (vs [111, 107, 10, 111, 107, 10, 111, 107, 32, 97, 37, 50, 48, 98, 58, 52, 50, 57, 52, 57, 54, 55, 50, 57, 53, 10, 105, 110, 118, 97, 108, 105, 100, 10, 111, 107, 10, 111, 107, 32, 119, 97, 108, 45, 49, 58, 49, 52, 10, 111, 107, 10, 111, 107, 10, 110, 111, 110, 101, 10, 111, 107, 10, 111, 107, 32, 49, 32, 49, 10]))] = true := by kernel_rfl
end Go.Proofs.YtgcineegnihcmaaGreatDoor.kn
