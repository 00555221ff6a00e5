/-
  DictKnown: its run in pieces. Some pieces: conditions stand in each theorem.
-/
import Derived.Test.YtbgbjdihdihmhaaGreatDoorKnCut0
import Derived.KernelRfl
namespace Go.Proofs.YtbgbjdihdihmhaaGreatDoor.kn
open Go.Am
set_option linter.unusedSimpArgs false
set_option maxRecDepth 100000
theorem k12 (ts : Nat → TypeId) : chk gl0 270 0 (execX tbM17 1000000 (seqN [sub cL [1,1,1,1,1,1,1,1,1,1,1,1,1,1,1,1,1,0], sub cL [1,1,1,1,1,1,1,1,1,1,1,1,1,1,1,1,1,1,0]] (sub cL [1,1,1,1,1,1,1,1,1,1,1,1,1,1,1,1,1,1,1,0])) (S11.st 270 gl0 ts)) S12 = true := by kernel_rfl
theorem kE (ts : Nat → TypeId) : endOk tbM17 Tryz.f3.results.toList (execX tbM17 1000000 (sub cL [1,1,1,1,1,1,1,1,1,1,1,1,1,1,1,1,1,1,1,1]) (S12.st 270 gl0 ts)) = true := by kernel_rfl
end Go.Proofs.YtbgbjdihdihmhaaGreatDoor.kn
