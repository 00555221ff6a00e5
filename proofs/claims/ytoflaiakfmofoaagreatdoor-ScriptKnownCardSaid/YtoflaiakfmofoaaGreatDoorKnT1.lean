/-
  ScriptKnown: the tie of its variables, in pieces. Some of the facts. No conditions.
-/
import Derived.Test.YtoflaiakfmofoaaGreatDoorKnT0
namespace Go.Proofs.YtoflaiakfmofoaaGreatDoor
open Go
theorem tw : Tryz.prog.worded (varsWordLater true) = true := by kernel_rfl
theorem tu : Tryz.pinned.checked.prog.headLifts.contains "ownunsafe" = false := by kernel_rfl
end Go.Proofs.YtoflaiakfmofoaaGreatDoor
