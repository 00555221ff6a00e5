/-
  DeskKnown: its run in pieces. What some functions answer: conditions stand in each theorem.
-/
import Derived.Test.YtgcineegnihcmaaGreatDoorKnMemo2
import Derived.KernelRfl
import Derived.Test.YtgcineegnihcmaaGreatDoorAmD
namespace Go.Proofs.YtgcineegnihcmaaGreatDoor.kn
open Go.Am
set_option linter.unusedSimpArgs false
set_option maxRecDepth 100000
theorem mm9_3 (ts : Nat → TypeId) : memoG tbM377 1000000 9 gm9 11 ts [([(vs [97, 100, 100, 32, 98, 101, 101, 32, 51, 10, 97, 100, 100, 32, 98, 101, 101, 32, 52, 10, 102, 105, 110, 100, 32, 98, 101, 101, 10, 102, 105, 110, 100, 32, 37, 50, 48, 10, 97, 100, 100, 32, 98, 101, 97, 32, 57, 10, 110, 101, 97, 114, 32, 98, 101, 32, 49, 32, 53, 10, 102, 108, 117, 115, 104, 10, 112, 97, 114, 116, 115, 10, 115, 121, 110, 99, 10, 115, 116, 111, 112, 10, 119, 111, 114, 100, 115])], (vs [111, 107, 10, 116, 119, 105, 99, 101, 10, 111, 107, 32, 51, 10, 110, 111, 110, 101, 10, 111, 107, 10, 111, 107, 32, 98, 101, 97, 58, 57, 58, 49, 32, 98, 101, 101, 58, 51, 58, 49, 10, 111, 107, 10, 111, 107, 32, 48, 32, 50, 10, 111, 107, 10, 111, 107, 10, 111, 107, 32, 98, 101, 97, 58, 57, 32, 98, 101, 101, 58, 51, 10]))] = true := by kernel_rfl
end Go.Proofs.YtgcineegnihcmaaGreatDoor.kn
