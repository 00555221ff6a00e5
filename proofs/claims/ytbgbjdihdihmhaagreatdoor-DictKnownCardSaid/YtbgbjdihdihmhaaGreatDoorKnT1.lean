/-
  DictKnown: the tie of its variables, in pieces. Some of the facts. No conditions.
-/
import Derived.Test.YtbgbjdihdihmhaaGreatDoorKnT0
namespace Go.Proofs.YtbgbjdihdihmhaaGreatDoor
open Go
theorem tw : Tryz.prog.worded (varsWordLater true) = true := by kernel_rfl
theorem tk : tieL.map (fun x => Tryz.prog.kindOfLater x.1) = ([.data, .data, .data, .sentinel, .sentinel] : List LaidKind).map some := by kernel_rfl
theorem tu : Tryz.pinned.checked.prog.headLifts.contains "ownunsafe" = false := by kernel_rfl
end Go.Proofs.YtbgbjdihdihmhaaGreatDoor
