/-
  DeskKnown: its run in pieces. Some pieces: conditions stand in each theorem.
-/
import Derived.Test.YtgcineegnihcmaaGreatDoorKnCut0
import Derived.KernelRfl
namespace Go.Proofs.YtgcineegnihcmaaGreatDoor.kn
open Go.Am
set_option linter.unusedSimpArgs false
set_option maxRecDepth 100000
theorem kE (ts : Nat → TypeId) : endOk tbM9 Tryz.f4.results.toList (execX tbM9 1000000 (sub cL []) ⟨.e, 44, [], gMem ts gl0 11, none⟩) = true := by kernel_rfl
end Go.Proofs.YtgcineegnihcmaaGreatDoor.kn
