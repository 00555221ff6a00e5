/-
  CrashKnown: its run in pieces. Some pieces: conditions stand in each theorem.
-/
import Derived.Test.YtjmdfeaghnoehaaGreatDoorKnCut0
import Derived.KernelRfl
namespace Go.Proofs.YtjmdfeaghnoehaaGreatDoor.kn
open Go.Am
set_option linter.unusedSimpArgs false
set_option maxRecDepth 100000
theorem k5 (ts : Nat → TypeId) : chk gl0 124 0 (execX tbM18 1000000 (seqN (List.replicate 0 (sub cL [1,1,0,1,0,0])) (sub cL [1,1,0,1,0,0])) (S4.st 124 gl0 ts)) S5 = true := by kernel_rfl
theorem k6 (ts : Nat → TypeId) : chk gl0 124 0 (execX tbM18 1000000 (seqN (List.replicate 0 (sub cL [1,1,0,1,0,0])) (sub cL [1,1,0,1,0,0])) (S5.st 124 gl0 ts)) S6 = true := by kernel_rfl
end Go.Proofs.YtjmdfeaghnoehaaGreatDoor.kn
