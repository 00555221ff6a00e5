/-
  DictKnown: its run in pieces. The whole: conditions stand in each theorem.
-/
import Derived.Test.YtbgbjdihdihmhaaGreatDoorKnCut1
import Derived.Test.YtbgbjdihdihmhaaGreatDoorKnCut2
import Derived.Test.YtbgbjdihdihmhaaGreatDoorKnCut3
import Derived.Test.YtbgbjdihdihmhaaGreatDoorKnCut4
import Derived.Test.YtbgbjdihdihmhaaGreatDoorKnCut5
import Derived.Test.YtbgbjdihdihmhaaGreatDoorKnCut6
import Derived.Test.YtbgbjdihdihmhaaGreatDoorKnCut7
import Derived.Test.YtbgbjdihdihmhaaGreatDoorKnCut8
import Derived.Test.YtbgbjdihdihmhaaGreatDoorKnCut9
import Derived.KernelRfl
namespace Go.Proofs.YtbgbjdihdihmhaaGreatDoor.kn
open Go.Am
set_option linter.unusedSimpArgs false
set_option maxRecDepth 100000
theorem body_eq : Tryz.f3.body = some (.seq (sub cL [0]) (.seq (sub cL [1,0]) (.seq (sub cL [1,1,0]) (.seq (sub cL [1,1,1,0]) (.seq (sub cL [1,1,1,1,0]) (.seq (sub cL [1,1,1,1,1,0]) (.seq (sub cL [1,1,1,1,1,1,0]) (.seq (sub cL [1,1,1,1,1,1,1,0]) (.seq (sub cL [1,1,1,1,1,1,1,1,0]) (.seq (sub cL [1,1,1,1,1,1,1,1,1,0]) (.seq (sub cL [1,1,1,1,1,1,1,1,1,1,0]) (.seq (sub cL [1,1,1,1,1,1,1,1,1,1,1,0]) (.seq (.seq (sub cL [1,1,1,1,1,1,1,1,1,1,1,1,0,0]) (.block 0 (.loop (sub cL [1,1,1,1,1,1,1,1,1,1,1,1,0,1,0,0])))) (.seq (sub cL [1,1,1,1,1,1,1,1,1,1,1,1,1,0]) (.seq (sub cL [1,1,1,1,1,1,1,1,1,1,1,1,1,1,0]) (.seq (sub cL [1,1,1,1,1,1,1,1,1,1,1,1,1,1,1,0]) (.seq (sub cL [1,1,1,1,1,1,1,1,1,1,1,1,1,1,1,1,0]) (.seq (sub cL [1,1,1,1,1,1,1,1,1,1,1,1,1,1,1,1,1,0]) (.seq (sub cL [1,1,1,1,1,1,1,1,1,1,1,1,1,1,1,1,1,1,0]) (.seq (sub cL [1,1,1,1,1,1,1,1,1,1,1,1,1,1,1,1,1,1,1,0]) (sub cL [1,1,1,1,1,1,1,1,1,1,1,1,1,1,1,1,1,1,1,1]))))))))))))))))))))) := by kernel_rfl
theorem run (ts : Nat → TypeId) : ∃ s1, RunSnd tbM17.P gl0 ts (.seq (sub cL [0]) (.seq (sub cL [1,0]) (.seq (sub cL [1,1,0]) (.seq (sub cL [1,1,1,0]) (.seq (sub cL [1,1,1,1,0]) (.seq (sub cL [1,1,1,1,1,0]) (.seq (sub cL [1,1,1,1,1,1,0]) (.seq (sub cL [1,1,1,1,1,1,1,0]) (.seq (sub cL [1,1,1,1,1,1,1,1,0]) (.seq (sub cL [1,1,1,1,1,1,1,1,1,0]) (.seq (sub cL [1,1,1,1,1,1,1,1,1,1,0]) (.seq (sub cL [1,1,1,1,1,1,1,1,1,1,1,0]) (.seq (.seq (sub cL [1,1,1,1,1,1,1,1,1,1,1,1,0,0]) (.block 0 (.loop (sub cL [1,1,1,1,1,1,1,1,1,1,1,1,0,1,0,0])))) (.seq (sub cL [1,1,1,1,1,1,1,1,1,1,1,1,1,0]) (.seq (sub cL [1,1,1,1,1,1,1,1,1,1,1,1,1,1,0]) (.seq (sub cL [1,1,1,1,1,1,1,1,1,1,1,1,1,1,1,0]) (.seq (sub cL [1,1,1,1,1,1,1,1,1,1,1,1,1,1,1,1,0]) (.seq (sub cL [1,1,1,1,1,1,1,1,1,1,1,1,1,1,1,1,1,0]) (.seq (sub cL [1,1,1,1,1,1,1,1,1,1,1,1,1,1,1,1,1,1,0]) (.seq (sub cL [1,1,1,1,1,1,1,1,1,1,1,1,1,1,1,1,1,1,1,0]) (sub cL [1,1,1,1,1,1,1,1,1,1,1,1,1,1,1,1,1,1,1,1]))))))))))))))))))))) ⟨.e, 270, [], (gMem ts gl0 6), none⟩ .ret s1 ∧ s1.d = [] ∧ resF tbM17 s1.t s1.m.get Tryz.f3.results.toList = .ok [.bool true] := by
  obtain ⟨s1, hE, h1, h2⟩ := pieceE (G := gl0) (ts := ts) tbM17_ok (kE ts)
  refine ⟨s1, ?_, h1, h2⟩
  refine piece tbM17_ok [sub cL [0], sub cL [1,0], sub cL [1,1,0], sub cL [1,1,1,0], sub cL [1,1,1,1,0], sub cL [1,1,1,1,1,0], sub cL [1,1,1,1,1,1,0], sub cL [1,1,1,1,1,1,1,0], sub cL [1,1,1,1,1,1,1,1,0], sub cL [1,1,1,1,1,1,1,1,1,0], sub cL [1,1,1,1,1,1,1,1,1,1,0]] (sub cL [1,1,1,1,1,1,1,1,1,1,1,0]) (k1 ts) ?_
  refine RunSnd.seq (s1 := (S10.st 270 gl0 ts)) (RunSnd.seq (pieceX (x := 0) tbM17_ok (k2 ts)) (RunSnd.blockX ?_)) ?_
  · refine pieceL tbM17_ok 7 (k3 ts) ?_
    refine pieceL tbM17_ok 4 (k4 ts) ?_
    refine pieceL tbM17_ok 3 (k5 ts) ?_
    refine pieceL tbM17_ok 3 (k6 ts) ?_
    refine pieceL tbM17_ok 2 (k7 ts) ?_
    refine pieceL tbM17_ok 2 (k8 ts) ?_
    refine pieceL tbM17_ok 2 (k9 ts) ?_
    exact pieceX (x := 1) tbM17_ok (k10 ts)
  refine piece tbM17_ok [sub cL [1,1,1,1,1,1,1,1,1,1,1,1,1,0], sub cL [1,1,1,1,1,1,1,1,1,1,1,1,1,1,0], sub cL [1,1,1,1,1,1,1,1,1,1,1,1,1,1,1,0]] (sub cL [1,1,1,1,1,1,1,1,1,1,1,1,1,1,1,1,0]) (k11 ts) ?_
  refine piece tbM17_ok [sub cL [1,1,1,1,1,1,1,1,1,1,1,1,1,1,1,1,1,0], sub cL [1,1,1,1,1,1,1,1,1,1,1,1,1,1,1,1,1,1,0]] (sub cL [1,1,1,1,1,1,1,1,1,1,1,1,1,1,1,1,1,1,1,0]) (k12 ts) ?_
  exact hE
end Go.Proofs.YtbgbjdihdihmhaaGreatDoor.kn
