/-
  DeskKnown: its run in pieces. What some functions answer: conditions stand in each theorem.
-/
import Derived.Test.YtgcineegnihcmaaGreatDoorKnMemo2
import Derived.KernelRfl
import Derived.Test.YtgcineegnihcmaaGreatDoorAmD
namespace Go.Proofs.YtgcineegnihcmaaGreatDoor.kn
open Go.Am
set_option linter.unusedSimpArgs false
set_option maxRecDepth 100000
theorem mm9_1 (ts : Nat → TypeId) : memoG tbM377 1000000 9 gm9 11 ts [([(vs [111, 112, 101, 110, 32, 49, 32, 49, 32, 53, 10, 97, 100, 100, 32, 97, 32, 49, 10, 119, 111, 114, 100, 115, 10, 112, 97, 114, 116, 115, 10, 102, 105, 110, 100, 32, 97, 10, 115, 121, 110, 99, 10, 111, 112, 101, 110, 32, 57, 32, 50, 32, 51, 10, 97, 100, 100, 32, 97, 32, 49, 10, 114, 101, 111, 112, 101, 110, 10, 119, 111, 114, 100, 115, 10, 102, 105, 108, 101, 115])], (vs [97, 114, 103, 10, 110, 105, 108, 10, 111, 107, 10, 111, 107, 10, 110, 105, 108, 10, 110, 105, 108, 10, 111, 107, 10, 102, 117, 108, 108, 10, 111, 107, 10, 111, 107, 10, 111, 107, 32, 119, 97, 108, 45, 49, 58, 48, 10]))] = true := by kernel_rfl
end Go.Proofs.YtgcineegnihcmaaGreatDoor.kn
