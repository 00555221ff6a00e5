/-
  DeskKnown: the tie of its variables, in pieces. Some of the facts. No conditions.
-/
import Derived.Test.YtgcineegnihcmaaGreatDoorKnT0
namespace Go.Proofs.YtgcineegnihcmaaGreatDoor
open Go
theorem tr : Tryz.prog.worded rootWordLater = true := by kernel_rfl
theorem tg : (Tryz.prog.funcNamed "gosem.cut.vars").isSome = true := by kernel_rfl
theorem tp : (tieL.all fun x => x.2.handleName?.isNone) = true := by kernel_rfl
end Go.Proofs.YtgcineegnihcmaaGreatDoor
