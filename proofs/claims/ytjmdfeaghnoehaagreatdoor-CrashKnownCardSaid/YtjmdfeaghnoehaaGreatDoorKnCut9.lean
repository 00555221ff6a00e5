/-
  CrashKnown: its run in pieces. Some pieces: conditions stand in each theorem.
-/
import Derived.Test.YtjmdfeaghnoehaaGreatDoorKnCut0
import Derived.KernelRfl
namespace Go.Proofs.YtjmdfeaghnoehaaGreatDoor.kn
open Go.Am
set_option linter.unusedSimpArgs false
set_option maxRecDepth 100000
theorem kE (ts : Nat → TypeId) : endOk tbM18 Tryz.f3.results.toList (execX tbM18 1000000 (sub cL [1,1,1,1,1,1,1]) (S19.st 124 gl0 ts)) = true := by kernel_rfl
end Go.Proofs.YtjmdfeaghnoehaaGreatDoor.kn
