/-
  DeskKnown: its run in pieces. The whole: conditions stand in each theorem.
-/
import Derived.Test.YtgcineegnihcmaaGreatDoorKnCut1
import Derived.KernelRfl
namespace Go.Proofs.YtgcineegnihcmaaGreatDoor.kn
open Go.Am
set_option linter.unusedSimpArgs false
set_option maxRecDepth 100000
theorem body_eq : Tryz.f4.body = some (sub cL []) := by kernel_rfl
theorem run (ts : Nat → TypeId) : ∃ s1, RunSnd tbM9.P gl0 ts (sub cL []) ⟨.e, 44, [], (gMem ts gl0 11), none⟩ .ret s1 ∧ s1.d = [] ∧ resF tbM9 s1.t s1.m.get Tryz.f4.results.toList = .ok [.bool true] := by
  obtain ⟨s1, hE, h1, h2⟩ := pieceE (G := gl0) (ts := ts) tbM9_ok (kE ts)
  refine ⟨s1, ?_, h1, h2⟩
  exact hE
end Go.Proofs.YtgcineegnihcmaaGreatDoor.kn
