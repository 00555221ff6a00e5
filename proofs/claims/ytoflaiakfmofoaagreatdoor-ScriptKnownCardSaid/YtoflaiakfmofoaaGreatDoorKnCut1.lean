/-
  ScriptKnown: its run in pieces. Some pieces: conditions stand in each theorem.
-/
import Derived.Test.YtoflaiakfmofoaaGreatDoorKnCut0
import Derived.KernelRfl
namespace Go.Proofs.YtoflaiakfmofoaaGreatDoor.kn
open Go.Am
set_option linter.unusedSimpArgs false
set_option maxRecDepth 100000
theorem k1 (ts : Nat → TypeId) : chk gl0 232 0 (execX tbK 1000000 (seqN [sub cL [0], sub cL [1,0]] (sub cL [1,1,0])) ⟨.e, 232, [], gMem ts gl0 6, none⟩) S1 = true := by kernel_rfl
theorem k2 (ts : Nat → TypeId) : chk gl0 232 0 (execX tbK 1000000 (seqN [] (sub cL [1,1,1,0])) (S1.st 232 gl0 ts)) S2 = true := by kernel_rfl
end Go.Proofs.YtoflaiakfmofoaaGreatDoor.kn
