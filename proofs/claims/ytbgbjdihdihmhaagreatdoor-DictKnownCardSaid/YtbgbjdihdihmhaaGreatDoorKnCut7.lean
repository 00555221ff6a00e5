/-
  DictKnown: its run in pieces. Some pieces: conditions stand in each theorem.
-/
import Derived.Test.YtbgbjdihdihmhaaGreatDoorKnCut0
import Derived.KernelRfl
namespace Go.Proofs.YtbgbjdihdihmhaaGreatDoor.kn
open Go.Am
set_option linter.unusedSimpArgs false
set_option maxRecDepth 100000
theorem k9 (ts : Nat → TypeId) : chk gl0 270 0 (execX tbM17 1000000 (seqN (List.replicate 2 (sub cL [1,1,1,1,1,1,1,1,1,1,1,1,0,1,0,0])) (sub cL [1,1,1,1,1,1,1,1,1,1,1,1,0,1,0,0])) (S8.st 270 gl0 ts)) S9 = true := by kernel_rfl
theorem k10 (ts : Nat → TypeId) : chk gl0 270 1 (execX tbM17 1000000 (.loop (sub cL [1,1,1,1,1,1,1,1,1,1,1,1,0,1,0,0])) (S9.st 270 gl0 ts)) S10 = true := by kernel_rfl
end Go.Proofs.YtbgbjdihdihmhaaGreatDoor.kn
