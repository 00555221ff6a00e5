/-
  CrashKnown: its run in pieces. What some functions answer: conditions stand in each theorem.
-/
import Derived.Test.YtjmdfeaghnoehaaGreatDoorKnMemo1x0
import Derived.Test.YtjmdfeaghnoehaaGreatDoorKnMemo1x1
import Derived.Test.YtjmdfeaghnoehaaGreatDoorKnMemo1x2
import Derived.Test.YtjmdfeaghnoehaaGreatDoorKnMemo1x3
import Derived.Test.YtjmdfeaghnoehaaGreatDoorKnMemo1x4
import Derived.Test.YtjmdfeaghnoehaaGreatDoorKnMemo1x5
import Derived.Test.YtjmdfeaghnoehaaGreatDoorKnMemo1x6
import Derived.KernelRfl
import Derived.Test.YtjmdfeaghnoehaaGreatDoorAmD
namespace Go.Proofs.YtjmdfeaghnoehaaGreatDoor.kn
open Go.Am
set_option linter.unusedSimpArgs false
set_option maxRecDepth 100000
noncomputable def tbM18 : Tab := tbM227.know 18 (deepHook tbM227 1000000 18 gd18 [dp18_0, dp18_1, dp18_2, dp18_3, dp18_4, dp18_5, dp18_6, dp18_7, dp18_8, dp18_9, dp18_10, dp18_11, dp18_12, dp18_13])
theorem tbM18_ok : TabOk tbM18 := deep_ok (c := Tryz.f18.body.getD .skip) tbM227_ok (fn_at Tryz.func18) (by kernel_rfl) (deep_cons do18_0 (deep_cons do18_1 (deep_cons do18_2 (deep_cons do18_3 (deep_cons do18_4 (deep_cons do18_5 (deep_cons do18_6 (deep_cons do18_7 (deep_cons do18_8 (deep_cons do18_9 (deep_cons do18_10 (deep_cons do18_11 (deep_cons do18_12 (deep_cons do18_13 rfl)))))))))))))) (fun ts => (deep_cons (dr18_0 ts) (deep_cons (dr18_1 ts) (deep_cons (dr18_2 ts) (deep_cons (dr18_3 ts) (deep_cons (dr18_4 ts) (deep_cons (dr18_5 ts) (deep_cons (dr18_6 ts) (deep_cons (dr18_7 ts) (deep_cons (dr18_8 ts) (deep_cons (dr18_9 ts) (deep_cons (dr18_10 ts) (deep_cons (dr18_11 ts) (deep_cons (dr18_12 ts) (deep_cons (dr18_13 ts) rfl)))))))))))))))
end Go.Proofs.YtjmdfeaghnoehaaGreatDoor.kn
