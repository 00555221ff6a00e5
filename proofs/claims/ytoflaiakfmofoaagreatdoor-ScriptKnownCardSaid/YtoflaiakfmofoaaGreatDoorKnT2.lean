/-
  ScriptKnown: the tie of its variables, in pieces. Some of the facts. No conditions.
-/
import Derived.Test.YtoflaiakfmofoaaGreatDoorKnT0
namespace Go.Proofs.YtoflaiakfmofoaaGreatDoor
open Go
theorem tw2 : Tryz.prog.worded (varsWordLater !true) = false := by kernel_rfl
end Go.Proofs.YtoflaiakfmofoaaGreatDoor
