/-
  DictKnown: its run in pieces. What some functions answer: conditions stand in each theorem.
-/
import Derived.Test.YtbgbjdihdihmhaaGreatDoorKnMemo1x0
import Derived.KernelRfl
import Derived.Test.YtbgbjdihdihmhaaGreatDoorAmD
namespace Go.Proofs.YtbgbjdihdihmhaaGreatDoor.kn
open Go.Am
set_option linter.unusedSimpArgs false
set_option maxRecDepth 100000
def mm17 : Memo := [([], (.bool true))]
theorem mm17_ok (ts : Nat → TypeId) : memoG tbM273 1000000 17 gm17 6 ts mm17 = true := (memoG_cons (mm17_0 ts) rfl)
noncomputable def tbM17 : Tab := tbM273.know 17 (globHook gm17 (memoK mm17))
theorem tbM17_ok : TabOk tbM17 := memoG_ok tbM273_ok (c := Tryz.f17.body.getD .skip) (N := 6) (fn_at Tryz.func17) (by kernel_rfl) (by decide +kernel) mm17_ok
end Go.Proofs.YtbgbjdihdihmhaaGreatDoor.kn
