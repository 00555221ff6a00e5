/-
  ScriptKnown: its run in pieces. The whole: conditions stand in each theorem.
-/
import Derived.Test.YtoflaiakfmofoaaGreatDoorKnCut1
import Derived.Test.YtoflaiakfmofoaaGreatDoorKnCut2
import Derived.KernelRfl
namespace Go.Proofs.YtoflaiakfmofoaaGreatDoor.kn
open Go.Am
set_option linter.unusedSimpArgs false
set_option maxRecDepth 100000
theorem body_eq : Tryz.f3.body = some (.seq (sub cL [0]) (.seq (sub cL [1,0]) (.seq (sub cL [1,1,0]) (.seq (sub cL [1,1,1,0]) (.seq (sub cL [1,1,1,1,0]) (sub cL [1,1,1,1,1])))))) := by kernel_rfl
theorem run (ts : Nat → TypeId) : ∃ s1, RunSnd tbK.P gl0 ts (.seq (sub cL [0]) (.seq (sub cL [1,0]) (.seq (sub cL [1,1,0]) (.seq (sub cL [1,1,1,0]) (.seq (sub cL [1,1,1,1,0]) (sub cL [1,1,1,1,1])))))) ⟨.e, 232, [], (gMem ts gl0 6), none⟩ .ret s1 ∧ s1.d = [] ∧ resF tbK s1.t s1.m.get Tryz.f3.results.toList = .ok [.bool true] := by
  obtain ⟨s1, hE, h1, h2⟩ := pieceE (G := gl0) (ts := ts) tbK_ok (kE ts)
  refine ⟨s1, ?_, h1, h2⟩
  refine piece tbK_ok [sub cL [0], sub cL [1,0]] (sub cL [1,1,0]) (k1 ts) ?_
  refine piece tbK_ok [] (sub cL [1,1,1,0]) (k2 ts) ?_
  refine piece tbK_ok [] (sub cL [1,1,1,1,0]) (k3 ts) ?_
  exact hE
end Go.Proofs.YtoflaiakfmofoaaGreatDoor.kn
