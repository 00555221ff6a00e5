/-
  CrashKnown: its run in pieces. Some pieces: conditions stand in each theorem.
-/
import Derived.Test.YtjmdfeaghnoehaaGreatDoorKnCut0
import Derived.KernelRfl
namespace Go.Proofs.YtjmdfeaghnoehaaGreatDoor.kn
open Go.Am
set_option linter.unusedSimpArgs false
set_option maxRecDepth 100000
theorem k1 (ts : Nat → TypeId) : chk gl0 124 0 (execX tbM18 1000000 (seqN [sub cL [0]] (sub cL [1,0])) ⟨.e, 124, [], gMem ts gl0 6, none⟩) S1 = true := by kernel_rfl
theorem k2 (ts : Nat → TypeId) : chk gl0 124 0 (execX tbM18 1000000 (sub cL [1,1,0,0]) (S1.st 124 gl0 ts)) S2 = true := by kernel_rfl
theorem k3 (ts : Nat → TypeId) : chk gl0 124 0 (execX tbM18 1000000 (seqN (List.replicate 0 (sub cL [1,1,0,1,0,0])) (sub cL [1,1,0,1,0,0])) (S2.st 124 gl0 ts)) S3 = true := by kernel_rfl
theorem k4 (ts : Nat → TypeId) : chk gl0 124 0 (execX tbM18 1000000 (seqN (List.replicate 0 (sub cL [1,1,0,1,0,0])) (sub cL [1,1,0,1,0,0])) (S3.st 124 gl0 ts)) S4 = true := by kernel_rfl
end Go.Proofs.YtjmdfeaghnoehaaGreatDoor.kn
