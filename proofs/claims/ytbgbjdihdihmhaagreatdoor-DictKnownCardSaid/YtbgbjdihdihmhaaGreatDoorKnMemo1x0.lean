/-
  DictKnown: its run in pieces. What some functions answer: conditions stand in each theorem.
-/
import Derived.Test.YtbgbjdihdihmhaaGreatDoorKnMemo1
import Derived.KernelRfl
import Derived.Test.YtbgbjdihdihmhaaGreatDoorAmD
namespace Go.Proofs.YtbgbjdihdihmhaaGreatDoor.kn
open Go.Am
set_option linter.unusedSimpArgs false
set_option maxRecDepth 100000
theorem mm17_0 (ts : Nat → TypeId) : memoG tbM273 1000000 17 gm17 6 ts [([], (.bool true))] = true := by kernel_rfl
end Go.Proofs.YtbgbjdihdihmhaaGreatDoor.kn
