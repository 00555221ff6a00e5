/-
  ScriptKnown: its run in pieces. Some pieces: conditions stand in each theorem.
-/
import Derived.Test.YtoflaiakfmofoaaGreatDoorKnCut0
import Derived.KernelRfl
namespace Go.Proofs.YtoflaiakfmofoaaGreatDoor.kn
open Go.Am
set_option linter.unusedSimpArgs false
set_option maxRecDepth 100000
theorem k3 (ts : Nat → TypeId) : chk gl0 232 0 (execX tbK 1000000 (seqN [] (sub cL [1,1,1,1,0])) (S2.st 232 gl0 ts)) S3 = true := by kernel_rfl
theorem kE (ts : Nat → TypeId) : endOk tbK Tryz.f3.results.toList (execX tbK 1000000 (sub cL [1,1,1,1,1]) (S3.st 232 gl0 ts)) = true := by kernel_rfl
end Go.Proofs.YtoflaiakfmofoaaGreatDoor.kn
