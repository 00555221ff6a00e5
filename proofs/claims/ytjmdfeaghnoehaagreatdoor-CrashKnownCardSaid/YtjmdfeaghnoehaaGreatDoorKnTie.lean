/-
  CrashKnown: the tie of its variables, in pieces. The whole. No conditions.
-/
import Derived.Test.YtjmdfeaghnoehaaGreatDoorKnT1
import Derived.Test.YtjmdfeaghnoehaaGreatDoorKnT2
import Derived.Test.YtjmdfeaghnoehaaGreatDoorKnT3
import Derived.Test.YtjmdfeaghnoehaaGreatDoorKnT4
import Derived.Test.YtjmdfeaghnoehaaGreatDoorKnT5
import Derived.Test.YtjmdfeaghnoehaaGreatDoorKnT6
import Derived.Test.YtjmdfeaghnoehaaGreatDoorKnT7
namespace Go.Proofs.YtjmdfeaghnoehaaGreatDoor
open Go
theorem tieAll : Tryz.prog.laidByTextLater tieL [.data, .data, .data, .sentinel, .sentinel] true :=
  Program.laidByTextLater_by_run 400 8 tw tw2 tr tk tg tn td t1 t2 tp
/-- The row's tie. -/
theorem crashKnown_row_tie : Rows.crashKnownRow.laidByTextAt .later Tryz.pinned [.data, .data, .data, .sentinel, .sentinel] true :=
  OpenClaim.laidByTextAt_later rfl rfl tieAll tu
end Go.Proofs.YtjmdfeaghnoehaaGreatDoor
