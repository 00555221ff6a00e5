/-
  ScriptKnown: the tie of its variables, in pieces. Some of the facts. No conditions.
-/
import Derived.Test.YtoflaiakfmofoaaGreatDoorKnT0
namespace Go.Proofs.YtoflaiakfmofoaaGreatDoor
open Go
theorem tk : tieL.map (fun x => Tryz.prog.kindOfLater x.1) = ([.data, .data, .data, .sentinel, .sentinel] : List LaidKind).map some := by kernel_rfl
end Go.Proofs.YtoflaiakfmofoaaGreatDoor
