/-
  ScriptKnown: the tie of its variables, in pieces. The whole. No conditions.
-/
import Derived.Test.YtoflaiakfmofoaaGreatDoorKnT1
import Derived.Test.YtoflaiakfmofoaaGreatDoorKnT2
import Derived.Test.YtoflaiakfmofoaaGreatDoorKnT3
import Derived.Test.YtoflaiakfmofoaaGreatDoorKnT4
import Derived.Test.YtoflaiakfmofoaaGreatDoorKnT5
import Derived.Test.YtoflaiakfmofoaaGreatDoorKnT6
import Derived.Test.YtoflaiakfmofoaaGreatDoorKnT7
import Derived.Test.YtoflaiakfmofoaaGreatDoorKnT8
namespace Go.Proofs.YtoflaiakfmofoaaGreatDoor
open Go
theorem tieAll : Tryz.prog.laidByTextLater tieL [.data, .data, .data, .sentinel, .sentinel] true :=
  Program.laidByTextLater_by_run 400 8 tw tw2 tr tk tg tn td t1 t2 tp
/-- The row's tie. -/
theorem scriptKnown_row_tie : Rows.scriptKnownRow.laidByTextAt .later Tryz.pinned [.data, .data, .data, .sentinel, .sentinel] true :=
  OpenClaim.laidByTextAt_later rfl rfl tieAll tu
end Go.Proofs.YtoflaiakfmofoaaGreatDoor
