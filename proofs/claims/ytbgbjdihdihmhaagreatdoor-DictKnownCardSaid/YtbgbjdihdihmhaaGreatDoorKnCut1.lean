/-
  DictKnown: its run in pieces. Some pieces: conditions stand in each theorem.
-/
import Derived.Test.YtbgbjdihdihmhaaGreatDoorKnCut0
import Derived.KernelRfl
namespace Go.Proofs.YtbgbjdihdihmhaaGreatDoor.kn
open Go.Am
set_option linter.unusedSimpArgs false
set_option maxRecDepth 100000
theorem k1 (ts : Nat → TypeId) : chk gl0 270 0 (execX tbM17 1000000 (seqN [sub cL [0], sub cL [1,0], sub cL [1,1,0], sub cL [1,1,1,0], sub cL [1,1,1,1,0], sub cL [1,1,1,1,1,0], sub cL [1,1,1,1,1,1,0], sub cL [1,1,1,1,1,1,1,0], sub cL [1,1,1,1,1,1,1,1,0], sub cL [1,1,1,1,1,1,1,1,1,0], sub cL [1,1,1,1,1,1,1,1,1,1,0]] (sub cL [1,1,1,1,1,1,1,1,1,1,1,0])) ⟨.e, 270, [], gMem ts gl0 6, none⟩) S1 = true := by kernel_rfl
theorem k2 (ts : Nat → TypeId) : chk gl0 270 0 (execX tbM17 1000000 (sub cL [1,1,1,1,1,1,1,1,1,1,1,1,0,0]) (S1.st 270 gl0 ts)) S2 = true := by kernel_rfl
theorem k3 (ts : Nat → TypeId) : chk gl0 270 0 (execX tbM17 1000000 (seqN (List.replicate 7 (sub cL [1,1,1,1,1,1,1,1,1,1,1,1,0,1,0,0])) (sub cL [1,1,1,1,1,1,1,1,1,1,1,1,0,1,0,0])) (S2.st 270 gl0 ts)) S3 = true := by kernel_rfl
end Go.Proofs.YtbgbjdihdihmhaaGreatDoor.kn
