/-
  DictKnown: its run in pieces. Some pieces: conditions stand in each theorem.
-/
import Derived.Test.YtbgbjdihdihmhaaGreatDoorKnCut0
import Derived.KernelRfl
namespace Go.Proofs.YtbgbjdihdihmhaaGreatDoor.kn
open Go.Am
set_option linter.unusedSimpArgs false
set_option maxRecDepth 100000
theorem k6 (ts : Nat → TypeId) : chk gl0 270 0 (execX tbM17 1000000 (seqN (List.replicate 3 (sub cL [1,1,1,1,1,1,1,1,1,1,1,1,0,1,0,0])) (sub cL [1,1,1,1,1,1,1,1,1,1,1,1,0,1,0,0])) (S5.st 270 gl0 ts)) S6 = true := by kernel_rfl
end Go.Proofs.YtbgbjdihdihmhaaGreatDoor.kn
