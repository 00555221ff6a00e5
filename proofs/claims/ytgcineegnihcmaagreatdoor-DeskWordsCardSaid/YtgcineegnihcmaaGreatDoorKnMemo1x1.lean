/-
  DeskKnown: its run in pieces. What some functions answer: conditions stand in each theorem.
-/
import Derived.Test.YtgcineegnihcmaaGreatDoorKnMemo1
import Derived.KernelRfl
import Derived.Test.YtgcineegnihcmaaGreatDoorAmD
namespace Go.Proofs.YtgcineegnihcmaaGreatDoor.kn
open Go.Am
set_option linter.unusedSimpArgs false
set_option maxRecDepth 100000
def dp377_2 : Deep := ⟨[(vi 2), (.agg ⟨[(vl 2866 0 4 524295), (vu 4)]⟩)],
  [(2832, .row 633 .row 0 [(vb 97), (vu 6), (vi 0), (vb 101), (vu 0), (vi 0)]),
  (2848, .row 633 .row 0 [(vb 101), (vu 0), (vi 1)]),
  (2864, .row 633 .row 0 [(vb 98), (vu 0), (vi 2)]),
  (2866, .row 556 .row 0 [sn, (.bool true), (vu 0), (vl 2832 0 2 262151), (.bool false), (vu 0), (vl 2848 0 1 131079), (.bool false), (vu 0), (vl 2864 0 1 131079), (.bool false), (vu 0)])], [], 2871, (.bool true),
  [(2832, .row 633 .row 0 [(vb 97), (vu 6), (vi 0), (vb 101), (vu 0), (vi 0)]),
  (2848, .row 633 .row 0 [(vb 101), (vu 0), (vi 1)]),
  (2864, .row 633 .row 0 [(vb 98), (vu 0), (vi 2)]),
  (2866, .row 556 .row 0 [sn, (.bool true), (vu 0), (vl 2832 0 2 262151), (.bool false), (vu 0), (vl 2848 0 1 131079), (.bool false), (vu 0), (vl 2864 0 1 131079), (.bool false), (vu 0)])], 3244⟩
theorem do377_2 : dp377_2.ok gd377 = true := by kernel_rfl
theorem dr377_2 (ts : Nat → TypeId) : dp377_2.ran tbM15 1000000 377 gd377 ts = true := by kernel_rfl
end Go.Proofs.YtgcineegnihcmaaGreatDoor.kn
