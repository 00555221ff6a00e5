/-
  CrashKnown: its run in pieces. Some pieces: conditions stand in each theorem.
-/
import Derived.Test.YtjmdfeaghnoehaaGreatDoorKnCut0
import Derived.KernelRfl
namespace Go.Proofs.YtjmdfeaghnoehaaGreatDoor.kn
open Go.Am
set_option linter.unusedSimpArgs false
set_option maxRecDepth 100000
theorem k11 (ts : Nat → TypeId) : chk gl0 124 0 (execX tbM18 1000000 (seqN (List.replicate 0 (sub cL [1,1,0,1,0,0])) (sub cL [1,1,0,1,0,0])) (S10.st 124 gl0 ts)) S11 = true := by kernel_rfl
theorem k12 (ts : Nat → TypeId) : chk gl0 124 0 (execX tbM18 1000000 (seqN (List.replicate 0 (sub cL [1,1,0,1,0,0])) (sub cL [1,1,0,1,0,0])) (S11.st 124 gl0 ts)) S12 = true := by kernel_rfl
end Go.Proofs.YtjmdfeaghnoehaaGreatDoor.kn
