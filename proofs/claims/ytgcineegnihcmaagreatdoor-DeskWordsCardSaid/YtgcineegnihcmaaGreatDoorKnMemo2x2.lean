/-
  DeskKnown: its run in pieces. What some functions answer: conditions stand in each theorem.
-/
import Derived.Test.YtgcineegnihcmaaGreatDoorKnMemo2
import Derived.KernelRfl
import Derived.Test.YtgcineegnihcmaaGreatDoorAmD
namespace Go.Proofs.YtgcineegnihcmaaGreatDoor.kn
open Go.Am
set_option linter.unusedSimpArgs false
set_option maxRecDepth 100000
theorem mm9_2 (ts : Nat → TypeId) : memoG tbM377 1000000 9 gm9 11 ts [([(vs [32, 32, 97, 100, 100, 32, 32, 32, 97, 32, 32, 32, 49, 32, 32, 10, 10, 32, 10, 115, 116, 111, 112, 32, 49, 32, 50, 32, 57, 57, 57, 57, 57, 57, 57, 57, 57, 57, 57, 10, 115, 116, 111, 112, 32, 52, 50, 57, 52, 57, 54, 55, 50, 57, 53, 32, 48, 10, 110, 101, 97, 114, 32, 97, 32, 52, 32, 49, 10, 110, 101, 97, 114, 32, 97, 32, 48, 32, 48, 10, 97, 100, 100, 32, 98, 32, 48, 49, 10, 97, 100, 100, 32, 98, 32, 52, 50, 57, 52, 57, 54, 55, 50, 57, 54, 10, 102, 105, 110, 100, 32, 97, 37, 50, 10, 102, 105, 110, 100, 32, 97, 37, 50, 71, 10, 87, 111, 114, 100, 115, 10, 119, 111, 114, 100, 115, 32, 120, 10, 111, 112, 101, 110, 32, 49, 32, 50])], (vs [111, 107, 10, 104, 111, 119, 63, 10, 111, 107, 10, 105, 110, 118, 97, 108, 105, 100, 10, 111, 107, 10, 104, 111, 119, 63, 10, 104, 111, 119, 63, 10, 104, 111, 119, 63, 10, 104, 111, 119, 63, 10, 119, 104, 97, 116, 63, 10, 119, 104, 97, 116, 63, 10, 119, 104, 97, 116, 63, 10]))] = true := by kernel_rfl
end Go.Proofs.YtgcineegnihcmaaGreatDoor.kn
