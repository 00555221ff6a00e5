/-
  DeskKnown: its run in pieces. What some functions answer: conditions stand in each theorem.
-/
import Derived.Test.YtgcineegnihcmaaGreatDoorKnMemo2
import Derived.KernelRfl
import Derived.Test.YtgcineegnihcmaaGreatDoorAmD
namespace Go.Proofs.YtgcineegnihcmaaGreatDoor.kn
open Go.Am
set_option linter.unusedSimpArgs false
set_option maxRecDepth 100000
theorem mm9_4 (ts : Nat → TypeId) : memoG tbM377 1000000 9 gm9 11 ts [([(vs [97, 100, 100, 32, 97, 10, 97, 100, 100, 32, 97, 32, 98, 10, 102, 108, 121, 10, 97, 114, 109, 32, 49, 10, 97, 100, 100, 32, 120, 32, 49, 10, 115, 121, 110, 99, 10])], (vs [119, 104, 97, 116, 63, 10, 104, 111, 119, 63, 10, 119, 104, 97, 116, 63, 10, 111, 107, 10, 99, 114, 97, 115, 104, 10, 112, 111, 105, 115, 111, 110, 101, 100, 10]))] = true := by kernel_rfl
end Go.Proofs.YtgcineegnihcmaaGreatDoor.kn
