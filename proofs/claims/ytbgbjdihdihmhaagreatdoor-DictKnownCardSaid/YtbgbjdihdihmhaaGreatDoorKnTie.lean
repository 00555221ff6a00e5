/-
  DictKnown: the tie of its variables, in pieces. The whole. No conditions.
-/
import Derived.Test.YtbgbjdihdihmhaaGreatDoorKnT1
import Derived.Test.YtbgbjdihdihmhaaGreatDoorKnT2
import Derived.Test.YtbgbjdihdihmhaaGreatDoorKnT3
import Derived.Test.YtbgbjdihdihmhaaGreatDoorKnT4
import Derived.Test.YtbgbjdihdihmhaaGreatDoorKnT5
import Derived.Test.YtbgbjdihdihmhaaGreatDoorKnT6
import Derived.Test.YtbgbjdihdihmhaaGreatDoorKnT7
namespace Go.Proofs.YtbgbjdihdihmhaaGreatDoor
open Go
theorem tieAll : Tryz.prog.laidByTextLater tieL [.data, .data, .data, .sentinel, .sentinel] true :=
  Program.laidByTextLater_by_run 400 8 tw tw2 tr tk tg tn td t1 t2 tp
/-- The row's tie. -/
theorem dictKnown_row_tie : Rows.dictKnownRow.laidByTextAt .later Tryz.pinned [.data, .data, .data, .sentinel, .sentinel] true :=
  OpenClaim.laidByTextAt_later rfl rfl tieAll tu
end Go.Proofs.YtbgbjdihdihmhaaGreatDoor
