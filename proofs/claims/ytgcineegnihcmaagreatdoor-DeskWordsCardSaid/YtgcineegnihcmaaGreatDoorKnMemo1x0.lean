/-
  DeskKnown: its run in pieces. What some functions answer: conditions stand in each theorem.
-/
import Derived.Test.YtgcineegnihcmaaGreatDoorKnMemo1
import Derived.KernelRfl
import Derived.Test.YtgcineegnihcmaaGreatDoorAmD
namespace Go.Proofs.YtgcineegnihcmaaGreatDoor.kn
open Go.Am
set_option linter.unusedSimpArgs false
set_option maxRecDepth 100000
def dp377_0 : Deep := ⟨[(vi 1), (.agg ⟨[(vl 1417 0 4 524295), (vu 4294967296)]⟩)],
  [(1383, .row 633 .row 0 [(vb 98), (vu 0), (vi 0)]),
  (1399, .row 633 .row 0 [(vb 32), (vu 0), (vi 1)]),
  (1415, .row 633 .row 0 [(vb 97), (vu 0), (vi 2)]),
  (1417, .row 556 .row 0 [sn, (.bool true), (vu 0), (vl 1383 0 1 131079), (.bool false), (vu 0), (vl 1399 0 1 131079), (.bool false), (vu 0), (vl 1415 0 1 131079), (.bool false), (vu 0)])], [], 1423, (.bool true),
  [(1383, .row 633 .row 0 [(vb 98), (vu 0), (vi 0)]),
  (1399, .row 633 .row 0 [(vb 32), (vu 0), (vi 1)]),
  (1415, .row 633 .row 0 [(vb 97), (vu 0), (vi 2)]),
  (1417, .row 556 .row 0 [sn, (.bool true), (vu 0), (vl 1383 0 1 131079), (.bool false), (vu 0), (vl 1399 0 1 131079), (.bool false), (vu 0), (vl 1415 0 1 131079), (.bool false), (vu 0)])], 1746⟩
theorem do377_0 : dp377_0.ok gd377 = true := by kernel_rfl
theorem dr377_0 (ts : Nat → TypeId) : dp377_0.ran tbM15 1000000 377 gd377 ts = true := by kernel_rfl
def dp377_1 : Deep := ⟨[(vi 2), (.agg ⟨[(vl 1821 0 4 524295), (vu 4)]⟩)],
  [(1787, .row 633 .row 0 [(vb 97), (vu 6), (vi 0), (vb 101), (vu 0), (vi 0)]),
  (1803, .row 633 .row 0 [(vb 101), (vu 0), (vi 1)]),
  (1819, .row 633 .row 0 [(vb 98), (vu 0), (vi 2)]),
  (1821, .row 556 .row 0 [sn, (.bool true), (vu 0), (vl 1787 0 2 262151), (.bool false), (vu 0), (vl 1803 0 1 131079), (.bool false), (vu 0), (vl 1819 0 1 131079), (.bool false), (vu 0)])], [], 1826, (.bool true),
  [(1787, .row 633 .row 0 [(vb 97), (vu 6), (vi 0), (vb 101), (vu 0), (vi 0)]),
  (1803, .row 633 .row 0 [(vb 101), (vu 0), (vi 1)]),
  (1819, .row 633 .row 0 [(vb 98), (vu 0), (vi 2)]),
  (1821, .row 556 .row 0 [sn, (.bool true), (vu 0), (vl 1787 0 2 262151), (.bool false), (vu 0), (vl 1803 0 1 131079), (.bool false), (vu 0), (vl 1819 0 1 131079), (.bool false), (vu 0)])], 2199⟩
theorem do377_1 : dp377_1.ok gd377 = true := by kernel_rfl
theorem dr377_1 (ts : Nat → TypeId) : dp377_1.ran tbM15 1000000 377 gd377 ts = true := by kernel_rfl
end Go.Proofs.YtgcineegnihcmaaGreatDoor.kn
