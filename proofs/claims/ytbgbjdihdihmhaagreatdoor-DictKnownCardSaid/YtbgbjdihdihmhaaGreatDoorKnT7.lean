/-
  DictKnown: the tie of its variables, in pieces. Some of the facts. No conditions.
-/
import Derived.Test.YtbgbjdihdihmhaaGreatDoorKnT0
namespace Go.Proofs.YtbgbjdihdihmhaaGreatDoor
open Go
theorem t2 : ∀ os tape, (DataW.laidRun Tryz.prog (varsWorld Tryz.prog 400 (varsId Tryz.prog) os tape).memory 8 (tieL.map (·.1))).map (fun x => decide x.2.Nodup && laidRowsB Tryz.prog (varsWorld Tryz.prog 400 (varsId Tryz.prog) os tape).memory x.2) = some true := fun _ _ => by kernel_rfl
end Go.Proofs.YtbgbjdihdihmhaaGreatDoor
