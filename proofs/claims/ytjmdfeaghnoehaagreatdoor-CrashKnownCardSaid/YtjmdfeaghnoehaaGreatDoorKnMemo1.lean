/-
  CrashKnown: its run in pieces. What some functions answer: conditions stand in each theorem.
-/
import Derived.Test.YtjmdfeaghnoehaaGreatDoorKnEnd
import Derived.KernelRfl
import Derived.Test.YtjmdfeaghnoehaaGreatDoorAmD
namespace Go.Proofs.YtjmdfeaghnoehaaGreatDoor.kn
open Go.Am
set_option linter.unusedSimpArgs false
set_option maxRecDepth 100000
def vi (n : Nat) : Value := .int .i64 (.ofNat n)
def vb (n : Nat) : Value := .int .u8 (.ofNat n)
def vw (n : Nat) : Value := .int .u32 (.ofNat n)
def vu (n : Nat) : Value := .int .u64 (.ofNat n)
def vs (l : List Nat) : Value := .string ⟨⟨l.map UInt8.ofNat⟩⟩
def pn : Value := .pointer none
def vp (b o : Nat) : Value := .pointer (some ⟨b, o, none⟩)
def sn : Value := .slice none 0 0
def vl (b o l c : Nat) : Value := .slice (some ⟨b, o, none⟩) l c
def mm359 : Memo := [([(vs [67, 77, 1, 1, 2, 2, 1, 1, 2, 19])], (vw 3959023562)),
  ([(vs [3, 1, 1, 97])], (vw 295533130)),
  ([(vs [3, 1, 2, 98])], (vw 2746841139)),
  ([(vs [3, 1, 3, 99])], (vw 3450173924)),
  ([(vs [67, 77, 1, 2, 3, 3, 2, 2, 1, 16, 1, 2, 19])], (vw 3554852420)),
  ([(vs [67, 83, 1, 2, 2, 1, 0, 4, 97, 0, 1, 98, 1, 1, 2])], (vw 573508745)),
  ([(vs [67, 83, 1, 1, 2, 1, 0, 2, 99, 0, 1, 4])], (vw 2361038123))]
theorem mm359_ok : memoB tbK 1000000 359 mm359 = true := by kernel_rfl
noncomputable def tbM359 : Tab := tbK.know 359 (pureHook (memoK mm359))
theorem tbM359_ok : TabOk tbM359 := memo_ok (c := Tryz.f359.body.getD .skip) tbK_ok (fn_at Tryz.func359) (by kernel_rfl) mm359_ok
def mm268 : Memo := [([(vs [67, 77, 1, 1, 2, 2, 1, 1, 2, 19])], (vs [67, 77, 1, 1, 2, 2, 1, 1, 2, 19, 202, 231, 249, 235])),
  ([(vs [3, 1, 1, 97])], (vs [3, 1, 1, 97, 74, 122, 157, 17])),
  ([(vs [3, 1, 2, 98])], (vs [3, 1, 2, 98, 51, 120, 185, 163])),
  ([(vs [3, 1, 3, 99])], (vs [3, 1, 3, 99, 228, 121, 165, 205])),
  ([(vs [67, 77, 1, 2, 3, 3, 2, 2, 1, 16, 1, 2, 19])], (vs [67, 77, 1, 2, 3, 3, 2, 2, 1, 16, 1, 2, 19, 68, 190, 226, 211])),
  ([(vs [67, 83, 1, 2, 2, 1, 0, 4, 97, 0, 1, 98, 1, 1, 2])], (vs [67, 83, 1, 2, 2, 1, 0, 4, 97, 0, 1, 98, 1, 1, 2, 137, 12, 47, 34])),
  ([(vs [67, 83, 1, 1, 2, 1, 0, 2, 99, 0, 1, 4])], (vs [67, 83, 1, 1, 2, 1, 0, 2, 99, 0, 1, 4, 43, 149, 186, 140]))]
theorem mm268_ok : memoB tbM359 1000000 268 mm268 = true := by kernel_rfl
noncomputable def tbM268 : Tab := tbM359.know 268 (pureHook (memoK mm268))
theorem tbM268_ok : TabOk tbM268 := memo_ok (c := Tryz.f268.body.getD .skip) tbM359_ok (fn_at Tryz.func268) (by kernel_rfl) mm268_ok
def mm218 : Memo := [([(vs [67, 77, 1, 1, 2, 2, 1, 1, 2, 19, 202, 231, 249, 235])], (.tuple ⟨[(vs [67, 77, 1, 1, 2, 2, 1, 1, 2, 19]), (.bool true)]⟩)),
  ([(vs [67, 77, 1, 2, 3, 3, 2, 2, 1, 16, 1, 2, 19, 68, 190, 226, 211])], (.tuple ⟨[(vs [67, 77, 1, 2, 3, 3, 2, 2, 1, 16, 1, 2, 19]), (.bool true)]⟩)),
  ([(vs [3, 1, 3, 99, 228, 121, 165, 205])], (.tuple ⟨[(vs [3, 1, 3, 99]), (.bool true)]⟩)),
  ([(vs [3, 1, 1, 97, 74, 122, 157, 17])], (.tuple ⟨[(vs [3, 1, 1, 97]), (.bool true)]⟩)),
  ([(vs [3, 1, 2, 98, 51, 120, 185, 163])], (.tuple ⟨[(vs [3, 1, 2, 98]), (.bool true)]⟩))]
theorem mm218_ok : memoB tbM268 1000000 218 mm218 = true := by kernel_rfl
noncomputable def tbM218 : Tab := tbM268.know 218 (pureHook (memoK mm218))
theorem tbM218_ok : TabOk tbM218 := memo_ok (c := Tryz.f218.body.getD .skip) tbM268_ok (fn_at Tryz.func218) (by kernel_rfl) mm218_ok
def mm500 : Memo := [([(vu 0), (vi 36)], (vs [48])),
  ([(vu 97), (vi 36)], (vs [50, 112])),
  ([(vu 98), (vi 36)], (vs [50, 113])),
  ([(vu 1), (vi 36)], (vs [49])),
  ([(vu 99), (vi 36)], (vs [50, 114]))]
theorem mm500_ok : memoB tbM218 1000000 500 mm500 = true := by kernel_rfl
noncomputable def tbM500 : Tab := tbM218.know 500 (pureHook (memoK mm500))
theorem tbM500_ok : TabOk tbM500 := memo_ok (c := Tryz.f500.body.getD .skip) tbM218_ok (fn_at Tryz.func500) (by kernel_rfl) mm500_ok
def mm103 : Memo := [([(vi 1), (vi 0)], (vs [109, 97, 110, 105, 102, 101, 115, 116])),
  ([(vi 3), (vi 2)], (vs [119, 97, 108, 45, 50])),
  ([(vi 4), (vi 1)], (vs [115, 101, 103, 45, 49])),
  ([(vi 3), (vi 1)], (vs [119, 97, 108, 45, 49])),
  ([(vi 4), (vi 2)], (vs [115, 101, 103, 45, 50])),
  ([(vi 2), (vi 0)], (vs [109, 97, 110, 105, 102, 101, 115, 116, 46, 116, 109, 112]))]
theorem mm103_ok : memoB tbM500 1000000 103 mm103 = true := by kernel_rfl
noncomputable def tbM103 : Tab := tbM500.know 103 (pureHook (memoK mm103))
theorem tbM103_ok : TabOk tbM103 := memo_ok (c := Tryz.f103.body.getD .skip) tbM500_ok (fn_at Tryz.func103) (by kernel_rfl) mm103_ok
def mm234 : Memo := [([(vs [1, 2, 2, 1, 1, 2, 19]), (vi 0)], (.tuple ⟨[(vu 1), (vi 1), (vi 0)]⟩)),
  ([(vs [1, 2, 2, 1, 1, 2, 19]), (vi 1)], (.tuple ⟨[(vu 2), (vi 2), (vi 0)]⟩)),
  ([(vs [1, 2, 2, 1, 1, 2, 19]), (vi 2)], (.tuple ⟨[(vu 2), (vi 3), (vi 0)]⟩)),
  ([(vs [1, 2, 2, 1, 1, 2, 19]), (vi 3)], (.tuple ⟨[(vu 1), (vi 4), (vi 0)]⟩)),
  ([(vs [1, 2, 2, 1, 1, 2, 19]), (vi 4)], (.tuple ⟨[(vu 1), (vi 5), (vi 0)]⟩)),
  ([(vs [1, 2, 2, 1, 1, 2, 19]), (vi 5)], (.tuple ⟨[(vu 2), (vi 6), (vi 0)]⟩)),
  ([(vs [1, 2, 2, 1, 1, 2, 19]), (vi 6)], (.tuple ⟨[(vu 19), (vi 7), (vi 0)]⟩)),
  ([(vs [2, 3, 3, 2, 2, 1, 16, 1, 2, 19]), (vi 0)], (.tuple ⟨[(vu 2), (vi 1), (vi 0)]⟩)),
  ([(vs [2, 3, 3, 2, 2, 1, 16, 1, 2, 19]), (vi 1)], (.tuple ⟨[(vu 3), (vi 2), (vi 0)]⟩)),
  ([(vs [2, 3, 3, 2, 2, 1, 16, 1, 2, 19]), (vi 2)], (.tuple ⟨[(vu 3), (vi 3), (vi 0)]⟩)),
  ([(vs [2, 3, 3, 2, 2, 1, 16, 1, 2, 19]), (vi 3)], (.tuple ⟨[(vu 2), (vi 4), (vi 0)]⟩)),
  ([(vs [2, 3, 3, 2, 2, 1, 16, 1, 2, 19]), (vi 4)], (.tuple ⟨[(vu 2), (vi 5), (vi 0)]⟩)),
  ([(vs [2, 3, 3, 2, 2, 1, 16, 1, 2, 19]), (vi 5)], (.tuple ⟨[(vu 1), (vi 6), (vi 0)]⟩)),
  ([(vs [2, 3, 3, 2, 2, 1, 16, 1, 2, 19]), (vi 6)], (.tuple ⟨[(vu 16), (vi 7), (vi 0)]⟩)),
  ([(vs [2, 3, 3, 2, 2, 1, 16, 1, 2, 19]), (vi 7)], (.tuple ⟨[(vu 1), (vi 8), (vi 0)]⟩)),
  ([(vs [2, 3, 3, 2, 2, 1, 16, 1, 2, 19]), (vi 8)], (.tuple ⟨[(vu 2), (vi 9), (vi 0)]⟩)),
  ([(vs [2, 3, 3, 2, 2, 1, 16, 1, 2, 19]), (vi 9)], (.tuple ⟨[(vu 19), (vi 10), (vi 0)]⟩)),
  ([(vs [3, 1, 3, 99, 228, 121, 165, 205]), (vi 0)], (.tuple ⟨[(vu 3), (vi 1), (vi 0)]⟩)),
  ([(vs [1, 3, 99]), (vi 1)], (.tuple ⟨[(vu 3), (vi 2), (vi 0)]⟩)),
  ([(vs [1, 1, 97]), (vi 1)], (.tuple ⟨[(vu 1), (vi 2), (vi 0)]⟩)),
  ([(vs [3, 1, 1, 97, 74, 122, 157, 17]), (vi 0)], (.tuple ⟨[(vu 3), (vi 1), (vi 0)]⟩)),
  ([(vs [3, 1, 1, 97, 74, 122, 157, 17, 3, 1, 2, 98, 51, 120, 185, 163]), (vi 0)], (.tuple ⟨[(vu 3), (vi 1), (vi 0)]⟩)),
  ([(vs [3, 1, 1, 97, 74, 122, 157, 17, 3, 1, 2, 98, 51, 120, 185, 163]), (vi 8)], (.tuple ⟨[(vu 3), (vi 9), (vi 0)]⟩)),
  ([(vs [1, 2, 98]), (vi 1)], (.tuple ⟨[(vu 2), (vi 2), (vi 0)]⟩))]
theorem mm234_ok : memoB tbM103 1000000 234 mm234 = true := by kernel_rfl
noncomputable def tbM234 : Tab := tbM103.know 234 (pureHook (memoK mm234))
theorem tbM234_ok : TabOk tbM234 := memo_ok (c := Tryz.f234.body.getD .skip) tbM103_ok (fn_at Tryz.func234) (by kernel_rfl) mm234_ok
def mm219 : Memo := [([(vs [109, 97, 110, 105, 102, 101, 115, 116]), (vs [])], (.tuple ⟨[(vs [109, 97, 110, 105, 102, 101, 115, 116]), (.bool true)]⟩)),
  ([(vs [109, 97, 110, 105, 102, 101, 115, 116]), (vs [109, 97, 110, 105, 102, 101, 115, 116])], (.tuple ⟨[(vs []), (.bool true)]⟩)),
  ([(vs [115, 101, 103, 45, 49]), (vs [])], (.tuple ⟨[(vs [115, 101, 103, 45, 49]), (.bool true)]⟩)),
  ([(vs [115, 101, 103, 45, 49]), (vs [109, 97, 110, 105, 102, 101, 115, 116])], (.tuple ⟨[(vs [115, 101, 103, 45, 49]), (.bool false)]⟩)),
  ([(vs [115, 101, 103, 45, 49]), (vs [109, 97, 110, 105, 102, 101, 115, 116, 46, 116, 109, 112])], (.tuple ⟨[(vs [115, 101, 103, 45, 49]), (.bool false)]⟩)),
  ([(vs [115, 101, 103, 45, 49]), (vs [119, 97, 108, 45])], (.tuple ⟨[(vs [115, 101, 103, 45, 49]), (.bool false)]⟩)),
  ([(vs [115, 101, 103, 45, 49]), (vs [115, 101, 103, 45])], (.tuple ⟨[(vs [49]), (.bool true)]⟩)),
  ([(vs [119, 97, 108, 45, 50]), (vs [])], (.tuple ⟨[(vs [119, 97, 108, 45, 50]), (.bool true)]⟩)),
  ([(vs [119, 97, 108, 45, 50]), (vs [109, 97, 110, 105, 102, 101, 115, 116])], (.tuple ⟨[(vs [119, 97, 108, 45, 50]), (.bool false)]⟩)),
  ([(vs [119, 97, 108, 45, 50]), (vs [109, 97, 110, 105, 102, 101, 115, 116, 46, 116, 109, 112])], (.tuple ⟨[(vs [119, 97, 108, 45, 50]), (.bool false)]⟩)),
  ([(vs [119, 97, 108, 45, 50]), (vs [119, 97, 108, 45])], (.tuple ⟨[(vs [50]), (.bool true)]⟩)),
  ([(vs [115, 101, 103, 45, 50]), (vs [])], (.tuple ⟨[(vs [115, 101, 103, 45, 50]), (.bool true)]⟩)),
  ([(vs [115, 101, 103, 45, 50]), (vs [109, 97, 110, 105, 102, 101, 115, 116])], (.tuple ⟨[(vs [115, 101, 103, 45, 50]), (.bool false)]⟩)),
  ([(vs [115, 101, 103, 45, 50]), (vs [109, 97, 110, 105, 102, 101, 115, 116, 46, 116, 109, 112])], (.tuple ⟨[(vs [115, 101, 103, 45, 50]), (.bool false)]⟩)),
  ([(vs [115, 101, 103, 45, 50]), (vs [119, 97, 108, 45])], (.tuple ⟨[(vs [115, 101, 103, 45, 50]), (.bool false)]⟩)),
  ([(vs [115, 101, 103, 45, 50]), (vs [115, 101, 103, 45])], (.tuple ⟨[(vs [50]), (.bool true)]⟩)),
  ([(vs [67, 77, 1, 1, 2, 2, 1, 1, 2, 19]), (vs [67, 77, 1])], (.tuple ⟨[(vs [1, 2, 2, 1, 1, 2, 19]), (.bool true)]⟩)),
  ([(vs [109, 97, 110, 105, 102, 101, 115, 116, 46, 116, 109, 112]), (vs [])], (.tuple ⟨[(vs [109, 97, 110, 105, 102, 101, 115, 116, 46, 116, 109, 112]), (.bool true)]⟩)),
  ([(vs [109, 97, 110, 105, 102, 101, 115, 116, 46, 116, 109, 112]), (vs [109, 97, 110, 105, 102, 101, 115, 116])], (.tuple ⟨[(vs [46, 116, 109, 112]), (.bool true)]⟩)),
  ([(vs [109, 97, 110, 105, 102, 101, 115, 116, 46, 116, 109, 112]), (vs [109, 97, 110, 105, 102, 101, 115, 116, 46, 116, 109, 112])], (.tuple ⟨[(vs []), (.bool true)]⟩)),
  ([(vs [119, 97, 108, 45, 49]), (vs [])], (.tuple ⟨[(vs [119, 97, 108, 45, 49]), (.bool true)]⟩)),
  ([(vs [119, 97, 108, 45, 49]), (vs [109, 97, 110, 105, 102, 101, 115, 116])], (.tuple ⟨[(vs [119, 97, 108, 45, 49]), (.bool false)]⟩)),
  ([(vs [119, 97, 108, 45, 49]), (vs [109, 97, 110, 105, 102, 101, 115, 116, 46, 116, 109, 112])], (.tuple ⟨[(vs [119, 97, 108, 45, 49]), (.bool false)]⟩)),
  ([(vs [119, 97, 108, 45, 49]), (vs [119, 97, 108, 45])], (.tuple ⟨[(vs [49]), (.bool true)]⟩)),
  ([(vs [67, 77, 1, 2, 3, 3, 2, 2, 1, 16, 1, 2, 19]), (vs [67, 77, 1])], (.tuple ⟨[(vs [2, 3, 3, 2, 2, 1, 16, 1, 2, 19]), (.bool true)]⟩))]
theorem mm219_ok : memoB tbM234 1000000 219 mm219 = true := by kernel_rfl
noncomputable def tbM219 : Tab := tbM234.know 219 (pureHook (memoK mm219))
theorem tbM219_ok : TabOk tbM219 := memo_ok (c := Tryz.f219.body.getD .skip) tbM234_ok (fn_at Tryz.func219) (by kernel_rfl) mm219_ok
def mm24 : Memo := [([(.agg ⟨[(vs [97]), (vw 1), (.bool false)]⟩)], (.tuple ⟨[(vs [1, 1, 97]), (vi 0)]⟩)),
  ([(.agg ⟨[(vs [98]), (vw 2), (.bool false)]⟩)], (.tuple ⟨[(vs [1, 2, 98]), (vi 0)]⟩)),
  ([(.agg ⟨[(vs [99]), (vw 3), (.bool false)]⟩)], (.tuple ⟨[(vs [1, 3, 99]), (vi 0)]⟩)),
  ([(.agg ⟨[(vs [97]), (vw 0), (.bool true)]⟩)], (.tuple ⟨[(vs [2, 97]), (vi 0)]⟩)),
  ([(.agg ⟨[(vs []), (vw 4), (.bool false)]⟩)], (.tuple ⟨[(vs []), (vi 7)]⟩)),
  ([(.agg ⟨[(vs []), (vw 0), (.bool false)]⟩)], (.tuple ⟨[(vs []), (vi 7)]⟩)),
  ([(.agg ⟨[(vs [98]), (vw 7), (.bool false)]⟩)], (.tuple ⟨[(vs [1, 7, 98]), (vi 0)]⟩))]
theorem mm24_ok : memoB tbM219 1000000 24 mm24 = true := by kernel_rfl
noncomputable def tbM24 : Tab := tbM219.know 24 (pureHook (memoK mm24))
theorem tbM24_ok : TabOk tbM24 := memo_ok (c := Tryz.f24.body.getD .skip) tbM219_ok (fn_at Tryz.func24) (by kernel_rfl) mm24_ok
def mm345 : Memo := [([(vs [1, 1, 97])], (.tuple ⟨[(vs [3, 1, 1, 97, 74, 122, 157, 17]), (vi 0)]⟩)),
  ([(vs [1, 2, 98])], (.tuple ⟨[(vs [3, 1, 2, 98, 51, 120, 185, 163]), (vi 0)]⟩)),
  ([(vs [1, 3, 99])], (.tuple ⟨[(vs [3, 1, 3, 99, 228, 121, 165, 205]), (vi 0)]⟩))]
theorem mm345_ok : memoB tbM24 1000000 345 mm345 = true := by kernel_rfl
noncomputable def tbM345 : Tab := tbM24.know 345 (pureHook (memoK mm345))
theorem tbM345_ok : TabOk tbM345 := memo_ok (c := Tryz.f345.body.getD .skip) tbM24_ok (fn_at Tryz.func345) (by kernel_rfl) mm345_ok
def mm393 : Memo := [([(.agg ⟨[(vu 2), (.bool true)]⟩), (vu 0)], (.agg ⟨[(vu 2), (.bool true)]⟩)),
  ([(.agg ⟨[(vu 0), (.bool true)]⟩), (vu 0)], (.agg ⟨[(vu 0), (.bool true)]⟩)),
  ([(.agg ⟨[(vu 0), (.bool true)]⟩), (vu 1)], (.agg ⟨[(vu 1), (.bool true)]⟩)),
  ([(.agg ⟨[(vu 1), (.bool true)]⟩), (vu 2)], (.agg ⟨[(vu 3), (.bool true)]⟩)),
  ([(.agg ⟨[(vu 2), (.bool true)]⟩), (vu 1)], (.agg ⟨[(vu 3), (.bool true)]⟩)),
  ([(.agg ⟨[(vu 3), (.bool true)]⟩), (vu 0)], (.agg ⟨[(vu 3), (.bool true)]⟩)),
  ([(.agg ⟨[(vu 4), (.bool true)]⟩), (vu 0)], (.agg ⟨[(vu 4), (.bool true)]⟩)),
  ([(.agg ⟨[(vu 0), (.bool true)]⟩), (vu 4)], (.agg ⟨[(vu 4), (.bool true)]⟩))]
theorem mm393_ok : memoB tbM345 1000000 393 mm393 = true := by kernel_rfl
noncomputable def tbM393 : Tab := tbM345.know 393 (pureHook (memoK mm393))
theorem tbM393_ok : TabOk tbM393 := memo_ok (c := Tryz.f393.body.getD .skip) tbM345_ok (fn_at Tryz.func393) (by kernel_rfl) mm393_ok
def gm227 : Glb := [(1, [.chan (some 0)])]
def mm227 : Memo := [([(vs [109, 97, 110, 105, 102, 101, 115, 116])], (.tuple ⟨[(vi 1), (vi 0)]⟩)),
  ([(vs [115, 101, 103, 45, 49])], (.tuple ⟨[(vi 4), (vi 1)]⟩)),
  ([(vs [119, 97, 108, 45, 50])], (.tuple ⟨[(vi 3), (vi 2)]⟩)),
  ([(vs [115, 101, 103, 45, 50])], (.tuple ⟨[(vi 4), (vi 2)]⟩)),
  ([(vs [109, 97, 110, 105, 102, 101, 115, 116, 46, 116, 109, 112])], (.tuple ⟨[(vi 2), (vi 0)]⟩)),
  ([(vs [119, 97, 108, 45, 49])], (.tuple ⟨[(vi 3), (vi 1)]⟩))]
theorem mm227_ok (ts : Nat → TypeId) : memoG tbM393 1000000 227 gm227 6 ts mm227 = true := by kernel_rfl
noncomputable def tbM227 : Tab := tbM393.know 227 (globHook gm227 (memoK mm227))
theorem tbM227_ok : TabOk tbM227 := memoG_ok tbM393_ok (c := Tryz.f227.body.getD .skip) (N := 6) (fn_at Tryz.func227) (by kernel_rfl) (by decide +kernel) mm227_ok
def gd18 : Glb := [(1, [.chan (some 0)]), (2, [.chan (some 0)])]
end Go.Proofs.YtjmdfeaghnoehaaGreatDoor.kn
