/-
  CrashKnown: its run in pieces. The whole: conditions stand in each theorem.
-/
import Derived.Test.YtjmdfeaghnoehaaGreatDoorKnCut1
import Derived.Test.YtjmdfeaghnoehaaGreatDoorKnCut2
import Derived.Test.YtjmdfeaghnoehaaGreatDoorKnCut3
import Derived.Test.YtjmdfeaghnoehaaGreatDoorKnCut4
import Derived.Test.YtjmdfeaghnoehaaGreatDoorKnCut5
import Derived.Test.YtjmdfeaghnoehaaGreatDoorKnCut6
import Derived.Test.YtjmdfeaghnoehaaGreatDoorKnCut7
import Derived.Test.YtjmdfeaghnoehaaGreatDoorKnCut8
import Derived.Test.YtjmdfeaghnoehaaGreatDoorKnCut9
import Derived.KernelRfl
namespace Go.Proofs.YtjmdfeaghnoehaaGreatDoor.kn
open Go.Am
set_option linter.unusedSimpArgs false
set_option maxRecDepth 100000
theorem body_eq : Tryz.f3.body = some (.seq (sub cL [0]) (.seq (sub cL [1,0]) (.seq (.seq (sub cL [1,1,0,0]) (.block 0 (.loop (sub cL [1,1,0,1,0,0])))) (.seq (sub cL [1,1,1,0]) (.seq (sub cL [1,1,1,1,0]) (.seq (sub cL [1,1,1,1,1,0]) (.seq (sub cL [1,1,1,1,1,1,0]) (sub cL [1,1,1,1,1,1,1])))))))) := by kernel_rfl
theorem run (ts : Nat → TypeId) : ∃ s1, RunSnd tbM18.P gl0 ts (.seq (sub cL [0]) (.seq (sub cL [1,0]) (.seq (.seq (sub cL [1,1,0,0]) (.block 0 (.loop (sub cL [1,1,0,1,0,0])))) (.seq (sub cL [1,1,1,0]) (.seq (sub cL [1,1,1,1,0]) (.seq (sub cL [1,1,1,1,1,0]) (.seq (sub cL [1,1,1,1,1,1,0]) (sub cL [1,1,1,1,1,1,1])))))))) ⟨.e, 124, [], (gMem ts gl0 6), none⟩ .ret s1 ∧ s1.d = [] ∧ resF tbM18 s1.t s1.m.get Tryz.f3.results.toList = .ok [.bool true] := by
  obtain ⟨s1, hE, h1, h2⟩ := pieceE (G := gl0) (ts := ts) tbM18_ok (kE ts)
  refine ⟨s1, ?_, h1, h2⟩
  refine piece tbM18_ok [sub cL [0]] (sub cL [1,0]) (k1 ts) ?_
  refine RunSnd.seq (s1 := (S18.st 124 gl0 ts)) (RunSnd.seq (pieceX (x := 0) tbM18_ok (k2 ts)) (RunSnd.blockX ?_)) ?_
  · refine pieceL tbM18_ok 0 (k3 ts) ?_
    refine pieceL tbM18_ok 0 (k4 ts) ?_
    refine pieceL tbM18_ok 0 (k5 ts) ?_
    refine pieceL tbM18_ok 0 (k6 ts) ?_
    refine pieceL tbM18_ok 0 (k7 ts) ?_
    refine pieceL tbM18_ok 0 (k8 ts) ?_
    refine pieceL tbM18_ok 0 (k9 ts) ?_
    refine pieceL tbM18_ok 0 (k10 ts) ?_
    refine pieceL tbM18_ok 0 (k11 ts) ?_
    refine pieceL tbM18_ok 0 (k12 ts) ?_
    refine pieceL tbM18_ok 0 (k13 ts) ?_
    refine pieceL tbM18_ok 0 (k14 ts) ?_
    refine pieceL tbM18_ok 0 (k15 ts) ?_
    refine pieceL tbM18_ok 0 (k16 ts) ?_
    refine pieceL tbM18_ok 0 (k17 ts) ?_
    exact pieceX (x := 1) tbM18_ok (k18 ts)
  refine piece tbM18_ok [sub cL [1,1,1,0], sub cL [1,1,1,1,0], sub cL [1,1,1,1,1,0]] (sub cL [1,1,1,1,1,1,0]) (k19 ts) ?_
  exact hE
end Go.Proofs.YtjmdfeaghnoehaaGreatDoor.kn
