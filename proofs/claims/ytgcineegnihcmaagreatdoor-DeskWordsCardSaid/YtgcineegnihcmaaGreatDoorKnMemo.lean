/-
  DeskKnown: its run in pieces. What some functions answer: conditions stand in each theorem.
-/
import Derived.Test.YtgcineegnihcmaaGreatDoorKnMemo3x0
import Derived.KernelRfl
import Derived.Test.YtgcineegnihcmaaGreatDoorAmD
namespace Go.Proofs.YtgcineegnihcmaaGreatDoor.kn
open Go.Am
set_option linter.unusedSimpArgs false
set_option maxRecDepth 100000
def mm5 : Memo := [([], (.bool true))]
theorem mm5_ok (ts : Nat → TypeId) : memoG tbM9 1000000 5 gm5 11 ts mm5 = true := (memoG_cons (mm5_0 ts) rfl)
noncomputable def tbM5 : Tab := tbM9.know 5 (globHook gm5 (memoK mm5))
theorem tbM5_ok : TabOk tbM5 := memoG_ok tbM9_ok (c := Tryz.f5.body.getD .skip) (N := 11) (fn_at Tryz.func5) (by kernel_rfl) (by decide +kernel) mm5_ok
end Go.Proofs.YtgcineegnihcmaaGreatDoor.kn
