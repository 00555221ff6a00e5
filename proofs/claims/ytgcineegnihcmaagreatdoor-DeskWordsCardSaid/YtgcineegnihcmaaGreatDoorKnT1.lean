/-
  DeskKnown: the tie of its variables, in pieces. Some of the facts. No conditions.
-/
import Derived.Test.YtgcineegnihcmaaGreatDoorKnT0
namespace Go.Proofs.YtgcineegnihcmaaGreatDoor
open Go
theorem tw : Tryz.prog.worded (varsWordLater true) = true := by kernel_rfl
theorem tk : tieL.map (fun x => Tryz.prog.kindOfLater x.1) = ([.data, .sentinel, .sentinel, .data, .data, .data, .data, .listed] : List LaidKind).map some := by kernel_rfl
theorem tu : Tryz.pinned.checked.prog.headLifts.contains "ownunsafe" = false := by kernel_rfl
end Go.Proofs.YtgcineegnihcmaaGreatDoor
