/-
  DeskKnown: its run in pieces. What some functions answer: conditions stand in each theorem.
-/
import Derived.Test.YtgcineegnihcmaaGreatDoorKnEnd
import Derived.KernelRfl
import Derived.Test.YtgcineegnihcmaaGreatDoorAmD
namespace Go.Proofs.YtgcineegnihcmaaGreatDoor.kn
open Go.Am
set_option linter.unusedSimpArgs false
set_option maxRecDepth 100000
def vi (n : Nat) : Value := .int .i64 (.ofNat n)
def vb (n : Nat) : Value := .int .u8 (.ofNat n)
def vw (n : Nat) : Value := .int .u32 (.ofNat n)
def vu (n : Nat) : Value := .int .u64 (.ofNat n)
def vs (l : List Nat) : Value := .string ⟨⟨l.map UInt8.ofNat⟩⟩
def pn : Value := .pointer none
def vp (b o : Nat) : Value := .pointer (some ⟨b, o, none⟩)
def sn : Value := .slice none 0 0
def vl (b o l c : Nat) : Value := .slice (some ⟨b, o, none⟩) l c
def mm482 : Memo := [([(vw 0), (vs [3, 1, 1, 97])], (vw 295533130)),
  ([(vw 0), (vs [67, 77, 1, 1, 2, 2, 1, 1, 2, 27])], (vw 3844239352)),
  ([(vw 0), (vs [9, 1, 251, 255, 255, 255, 255, 97, 32, 98])], (vw 3076258467)),
  ([(vw 0), (vs [67, 83, 1, 1, 4, 1, 0, 2, 98, 0, 1, 2, 32, 0, 1, 2, 97, 0, 1, 252, 0, 0, 0, 0, 1])], (vw 3922083532)),
  ([(vw 0), (vs [67, 77, 1, 1, 2, 2, 1, 1, 1, 29])], (vw 661428494)),
  ([(vw 0), (vs [4, 2, 97, 32, 98])], (vw 3867548823)),
  ([(vw 0), (vs [5, 1, 3, 98, 101, 101])], (vw 2698748725)),
  ([(vw 0), (vs [5, 1, 9, 98, 101, 97])], (vw 3356198728)),
  ([(vw 0), (vs [67, 83, 1, 2, 4, 1, 0, 4, 97, 6, 1, 101, 0, 1, 2, 101, 0, 1, 2, 98, 0, 1, 4])], (vw 3586880075)),
  ([(vw 0), (vs [3, 1, 1, 120])], (vw 1979110026))]
theorem mm482_ok : memoB tbK 1000000 482 mm482 = true := by kernel_rfl
noncomputable def tbM482 : Tab := tbK.know 482 (pureHook (memoK mm482))
theorem tbM482_ok : TabOk tbM482 := memo_ok (c := Tryz.f482.body.getD .skip) tbK_ok (fn_at Tryz.func482) (by kernel_rfl) mm482_ok
def mm414 : Memo := [([(vs [3, 1, 1, 97])], (vw 295533130)),
  ([(vs [67, 77, 1, 1, 2, 2, 1, 1, 2, 27])], (vw 3844239352)),
  ([(vs [9, 1, 251, 255, 255, 255, 255, 97, 32, 98])], (vw 3076258467)),
  ([(vs [67, 83, 1, 1, 4, 1, 0, 2, 98, 0, 1, 2, 32, 0, 1, 2, 97, 0, 1, 252, 0, 0, 0, 0, 1])], (vw 3922083532)),
  ([(vs [67, 77, 1, 1, 2, 2, 1, 1, 1, 29])], (vw 661428494)),
  ([(vs [4, 2, 97, 32, 98])], (vw 3867548823)),
  ([(vs [5, 1, 3, 98, 101, 101])], (vw 2698748725)),
  ([(vs [5, 1, 9, 98, 101, 97])], (vw 3356198728)),
  ([(vs [67, 83, 1, 2, 4, 1, 0, 4, 97, 6, 1, 101, 0, 1, 2, 101, 0, 1, 2, 98, 0, 1, 4])], (vw 3586880075)),
  ([(vs [3, 1, 1, 120])], (vw 1979110026))]
theorem mm414_ok : memoB tbM482 1000000 414 mm414 = true := by kernel_rfl
noncomputable def tbM414 : Tab := tbM482.know 414 (pureHook (memoK mm414))
theorem tbM414_ok : TabOk tbM414 := memo_ok (c := Tryz.f414.body.getD .skip) tbM482_ok (fn_at Tryz.func414) (by kernel_rfl) mm414_ok
def mm344 : Memo := [([(vs [3, 1, 1, 97])], (vs [3, 1, 1, 97, 74, 122, 157, 17])),
  ([(vs [67, 77, 1, 1, 2, 2, 1, 1, 2, 27])], (vs [67, 77, 1, 1, 2, 2, 1, 1, 2, 27, 248, 111, 34, 229])),
  ([(vs [9, 1, 251, 255, 255, 255, 255, 97, 32, 98])], (vs [9, 1, 251, 255, 255, 255, 255, 97, 32, 98, 163, 250, 91, 183])),
  ([(vs [67, 83, 1, 1, 4, 1, 0, 2, 98, 0, 1, 2, 32, 0, 1, 2, 97, 0, 1, 252, 0, 0, 0, 0, 1])], (vs [67, 83, 1, 1, 4, 1, 0, 2, 98, 0, 1, 2, 32, 0, 1, 2, 97, 0, 1, 252, 0, 0, 0, 0, 1, 204, 62, 198, 233])),
  ([(vs [67, 77, 1, 1, 2, 2, 1, 1, 1, 29])], (vs [67, 77, 1, 1, 2, 2, 1, 1, 1, 29, 14, 153, 108, 39])),
  ([(vs [4, 2, 97, 32, 98])], (vs [4, 2, 97, 32, 98, 151, 28, 134, 230])),
  ([(vs [5, 1, 3, 98, 101, 101])], (vs [5, 1, 3, 98, 101, 101, 53, 163, 219, 160])),
  ([(vs [5, 1, 9, 98, 101, 97])], (vs [5, 1, 9, 98, 101, 97, 72, 135, 11, 200])),
  ([(vs [67, 83, 1, 2, 4, 1, 0, 4, 97, 6, 1, 101, 0, 1, 2, 101, 0, 1, 2, 98, 0, 1, 4])], (vs [67, 83, 1, 2, 4, 1, 0, 4, 97, 6, 1, 101, 0, 1, 2, 101, 0, 1, 2, 98, 0, 1, 4, 75, 114, 203, 213])),
  ([(vs [3, 1, 1, 120])], (vs [3, 1, 1, 120, 138, 210, 246, 117]))]
theorem mm344_ok : memoB tbM414 1000000 344 mm344 = true := by kernel_rfl
noncomputable def tbM344 : Tab := tbM414.know 344 (pureHook (memoK mm344))
theorem tbM344_ok : TabOk tbM344 := memo_ok (c := Tryz.f344.body.getD .skip) tbM414_ok (fn_at Tryz.func344) (by kernel_rfl) mm344_ok
def mm371 : Memo := [([(vs [67, 77, 1, 1, 2, 2, 1, 1, 2, 27, 248, 111, 34, 229])], (.tuple ⟨[(vs [67, 77, 1, 1, 2, 2, 1, 1, 2, 27]), (.bool true)]⟩))]
theorem mm371_ok : memoB tbM344 1000000 371 mm371 = true := by kernel_rfl
noncomputable def tbM371 : Tab := tbM344.know 371 (pureHook (memoK mm371))
theorem tbM371_ok : TabOk tbM371 := memo_ok (c := Tryz.f371.body.getD .skip) tbM344_ok (fn_at Tryz.func371) (by kernel_rfl) mm371_ok
def mm217 : Memo := [([(vi 3), (vi 1)], (vs [119, 97, 108, 45, 49])),
  ([(vi 1), (vi 0)], (vs [109, 97, 110, 105, 102, 101, 115, 116])),
  ([(vi 4), (vi 1)], (vs [115, 101, 103, 45, 49])),
  ([(vi 2), (vi 0)], (vs [109, 97, 110, 105, 102, 101, 115, 116, 46, 116, 109, 112])),
  ([(vi 3), (vi 2)], (vs [119, 97, 108, 45, 50]))]
theorem mm217_ok : memoB tbM371 1000000 217 mm217 = true := by kernel_rfl
noncomputable def tbM217 : Tab := tbM371.know 217 (pureHook (memoK mm217))
theorem tbM217_ok : TabOk tbM217 := memo_ok (c := Tryz.f217.body.getD .skip) tbM371_ok (fn_at Tryz.func217) (by kernel_rfl) mm217_ok
def mm385 : Memo := [([(vs [3, 1, 1]), (vi 0)], (.tuple ⟨[(vu 3), (vi 1), (vi 0)]⟩)),
  ([(vs [1, 2, 2, 1, 1, 2, 27]), (vi 0)], (.tuple ⟨[(vu 1), (vi 1), (vi 0)]⟩)),
  ([(vs [1, 2, 2, 1, 1, 2, 27]), (vi 1)], (.tuple ⟨[(vu 2), (vi 2), (vi 0)]⟩)),
  ([(vs [1, 2, 2, 1, 1, 2, 27]), (vi 2)], (.tuple ⟨[(vu 2), (vi 3), (vi 0)]⟩)),
  ([(vs [1, 2, 2, 1, 1, 2, 27]), (vi 3)], (.tuple ⟨[(vu 1), (vi 4), (vi 0)]⟩)),
  ([(vs [1, 2, 2, 1, 1, 2, 27]), (vi 4)], (.tuple ⟨[(vu 1), (vi 5), (vi 0)]⟩)),
  ([(vs [1, 2, 2, 1, 1, 2, 27]), (vi 5)], (.tuple ⟨[(vu 2), (vi 6), (vi 0)]⟩)),
  ([(vs [1, 2, 2, 1, 1, 2, 27]), (vi 6)], (.tuple ⟨[(vu 27), (vi 7), (vi 0)]⟩))]
theorem mm385_ok : memoB tbM217 1000000 385 mm385 = true := by kernel_rfl
noncomputable def tbM385 : Tab := tbM217.know 385 (pureHook (memoK mm385))
theorem tbM385_ok : TabOk tbM385 := memo_ok (c := Tryz.f385.body.getD .skip) tbM217_ok (fn_at Tryz.func385) (by kernel_rfl) mm385_ok
def mm372 : Memo := [([(vs [119, 97, 108, 45, 49]), (vs [])], (.tuple ⟨[(vs [119, 97, 108, 45, 49]), (.bool true)]⟩)),
  ([(vs [119, 97, 108, 45, 49]), (vs [109, 97, 110, 105, 102, 101, 115, 116])], (.tuple ⟨[(vs [119, 97, 108, 45, 49]), (.bool false)]⟩)),
  ([(vs [119, 97, 108, 45, 49]), (vs [109, 97, 110, 105, 102, 101, 115, 116, 46, 116, 109, 112])], (.tuple ⟨[(vs [119, 97, 108, 45, 49]), (.bool false)]⟩)),
  ([(vs [119, 97, 108, 45, 49]), (vs [119, 97, 108, 45])], (.tuple ⟨[(vs [49]), (.bool true)]⟩)),
  ([(vs [109, 97, 110, 105, 102, 101, 115, 116]), (vs [])], (.tuple ⟨[(vs [109, 97, 110, 105, 102, 101, 115, 116]), (.bool true)]⟩)),
  ([(vs [109, 97, 110, 105, 102, 101, 115, 116]), (vs [109, 97, 110, 105, 102, 101, 115, 116])], (.tuple ⟨[(vs []), (.bool true)]⟩)),
  ([(vs [115, 101, 103, 45, 49]), (vs [])], (.tuple ⟨[(vs [115, 101, 103, 45, 49]), (.bool true)]⟩)),
  ([(vs [115, 101, 103, 45, 49]), (vs [109, 97, 110, 105, 102, 101, 115, 116])], (.tuple ⟨[(vs [115, 101, 103, 45, 49]), (.bool false)]⟩)),
  ([(vs [115, 101, 103, 45, 49]), (vs [109, 97, 110, 105, 102, 101, 115, 116, 46, 116, 109, 112])], (.tuple ⟨[(vs [115, 101, 103, 45, 49]), (.bool false)]⟩)),
  ([(vs [115, 101, 103, 45, 49]), (vs [119, 97, 108, 45])], (.tuple ⟨[(vs [115, 101, 103, 45, 49]), (.bool false)]⟩)),
  ([(vs [115, 101, 103, 45, 49]), (vs [115, 101, 103, 45])], (.tuple ⟨[(vs [49]), (.bool true)]⟩)),
  ([(vs [67, 77, 1, 1, 2, 2, 1, 1, 2, 27]), (vs [67, 77, 1])], (.tuple ⟨[(vs [1, 2, 2, 1, 1, 2, 27]), (.bool true)]⟩))]
theorem mm372_ok : memoB tbM385 1000000 372 mm372 = true := by kernel_rfl
noncomputable def tbM372 : Tab := tbM385.know 372 (pureHook (memoK mm372))
theorem tbM372_ok : TabOk tbM372 := memo_ok (c := Tryz.f372.body.getD .skip) tbM385_ok (fn_at Tryz.func372) (by kernel_rfl) mm372_ok
def mm398 : Memo := [([(.agg ⟨[(vs [97]), (vw 1), (.bool false)]⟩)], (.tuple ⟨[(vs [1, 1, 97]), (vi 0)]⟩)),
  ([(.agg ⟨[(vs [97, 32, 98]), (vw 4294967295), (.bool false)]⟩)], (.tuple ⟨[(vs [1, 251, 255, 255, 255, 255, 97, 32, 98]), (vi 0)]⟩)),
  ([(.agg ⟨[(vs [97, 32, 98]), (vw 0), (.bool true)]⟩)], (.tuple ⟨[(vs [2, 97, 32, 98]), (vi 0)]⟩)),
  ([(.agg ⟨[(vs [98, 101, 101]), (vw 3), (.bool false)]⟩)], (.tuple ⟨[(vs [1, 3, 98, 101, 101]), (vi 0)]⟩)),
  ([(.agg ⟨[(vs [98, 101, 97]), (vw 9), (.bool false)]⟩)], (.tuple ⟨[(vs [1, 9, 98, 101, 97]), (vi 0)]⟩)),
  ([(.agg ⟨[(vs [120]), (vw 1), (.bool false)]⟩)], (.tuple ⟨[(vs [1, 1, 120]), (vi 0)]⟩))]
theorem mm398_ok : memoB tbM372 1000000 398 mm398 = true := by kernel_rfl
noncomputable def tbM398 : Tab := tbM372.know 398 (pureHook (memoK mm398))
theorem tbM398_ok : TabOk tbM398 := memo_ok (c := Tryz.f398.body.getD .skip) tbM372_ok (fn_at Tryz.func398) (by kernel_rfl) mm398_ok
def mm399 : Memo := [([(vs [1, 1, 97])], (.tuple ⟨[(vs [3, 1, 1, 97, 74, 122, 157, 17]), (vi 0)]⟩)),
  ([(vs [1, 251, 255, 255, 255, 255, 97, 32, 98])], (.tuple ⟨[(vs [9, 1, 251, 255, 255, 255, 255, 97, 32, 98, 163, 250, 91, 183]), (vi 0)]⟩)),
  ([(vs [2, 97, 32, 98])], (.tuple ⟨[(vs [4, 2, 97, 32, 98, 151, 28, 134, 230]), (vi 0)]⟩)),
  ([(vs [1, 3, 98, 101, 101])], (.tuple ⟨[(vs [5, 1, 3, 98, 101, 101, 53, 163, 219, 160]), (vi 0)]⟩)),
  ([(vs [1, 9, 98, 101, 97])], (.tuple ⟨[(vs [5, 1, 9, 98, 101, 97, 72, 135, 11, 200]), (vi 0)]⟩)),
  ([(vs [1, 1, 120])], (.tuple ⟨[(vs [3, 1, 1, 120, 138, 210, 246, 117]), (vi 0)]⟩))]
theorem mm399_ok : memoB tbM398 1000000 399 mm399 = true := by kernel_rfl
noncomputable def tbM399 : Tab := tbM398.know 399 (pureHook (memoK mm399))
theorem tbM399_ok : TabOk tbM399 := memo_ok (c := Tryz.f399.body.getD .skip) tbM398_ok (fn_at Tryz.func399) (by kernel_rfl) mm399_ok
def gm379 : Glb := [(2, [.chan (some 0)]), (3, [.chan (some 0)])]
def mm379 : Memo := [([(vs [119, 97, 108, 45, 49])], (.tuple ⟨[(vi 3), (vi 1)]⟩)),
  ([(vs [109, 97, 110, 105, 102, 101, 115, 116])], (.tuple ⟨[(vi 1), (vi 0)]⟩)),
  ([(vs [115, 101, 103, 45, 49])], (.tuple ⟨[(vi 4), (vi 1)]⟩))]
theorem mm379_ok (ts : Nat → TypeId) : memoG tbM399 1000000 379 gm379 11 ts mm379 = true := by kernel_rfl
noncomputable def tbM379 : Tab := tbM399.know 379 (globHook gm379 (memoK mm379))
theorem tbM379_ok : TabOk tbM379 := memoG_ok tbM399_ok (c := Tryz.f379.body.getD .skip) (N := 11) (fn_at Tryz.func379) (by kernel_rfl) (by decide +kernel) mm379_ok
def gm66 : Glb := [(4, [vb 0, vb 0, vb 0, vb 0, vb 0, vb 0, vb 0, vb 0, vb 0, vb 1, vb 1, vb 1, vb 1, vb 1, vb 0, vb 0, vb 0, vb 0, vb 0, vb 0, vb 0, vb 0, vb 0, vb 0, vb 0, vb 0, vb 0, vb 0, vb 0, vb 0, vb 0, vb 0, vb 1, vb 0, vb 0, vb 0, vb 0, vb 0, vb 0, vb 0, vb 0, vb 0, vb 0, vb 0, vb 0, vb 0, vb 0, vb 0, vb 0, vb 0, vb 0, vb 0, vb 0, vb 0, vb 0, vb 0, vb 0, vb 0, vb 0, vb 0, vb 0, vb 0, vb 0, vb 0, vb 0, vb 0, vb 0, vb 0, vb 0, vb 0, vb 0, vb 0, vb 0, vb 0, vb 0, vb 0, vb 0, vb 0, vb 0, vb 0, vb 0, vb 0, vb 0, vb 0, vb 0, vb 0, vb 0, vb 0, vb 0, vb 0, vb 0, vb 0, vb 0, vb 0, vb 0, vb 0, vb 0, vb 0, vb 0, vb 0, vb 0, vb 0, vb 0, vb 0, vb 0, vb 0, vb 0, vb 0, vb 0, vb 0, vb 0, vb 0, vb 0, vb 0, vb 0, vb 0, vb 0, vb 0, vb 0, vb 0, vb 0, vb 0, vb 0, vb 0, vb 0, vb 0, vb 0, vb 0, vb 0, vb 0, vb 0, vb 0, vb 0, vb 0, vb 0, vb 0, vb 0, vb 0, vb 0, vb 0, vb 0, vb 0, vb 0, vb 0, vb 0, vb 0, vb 0, vb 0, vb 0, vb 0, vb 0, vb 0, vb 0, vb 0, vb 0, vb 0, vb 0, vb 0, vb 0, vb 0, vb 0, vb 0, vb 0, vb 0, vb 0, vb 0, vb 0, vb 0, vb 0, vb 0, vb 0, vb 0, vb 0, vb 0, vb 0, vb 0, vb 0, vb 0, vb 0, vb 0, vb 0, vb 0, vb 0, vb 0, vb 0, vb 0, vb 0, vb 0, vb 0, vb 0, vb 0, vb 0, vb 0, vb 0, vb 0, vb 0, vb 0, vb 0, vb 0, vb 0, vb 0, vb 0, vb 0, vb 0, vb 0, vb 0, vb 0, vb 0, vb 0, vb 0, vb 0, vb 0, vb 0, vb 0, vb 0, vb 0, vb 0, vb 0, vb 0, vb 0, vb 0, vb 0, vb 0, vb 0, vb 0, vb 0, vb 0, vb 0, vb 0, vb 0, vb 0, vb 0, vb 0, vb 0, vb 0, vb 0, vb 0, vb 0, vb 0, vb 0, vb 0, vb 0, vb 0, vb 0, vb 0, vb 0, vb 0, vb 0, vb 0, vb 0, vb 0, vb 0, vb 0, vb 0, vb 0, vb 0])]
def mm66 : Memo := [([(vi 0)], (vs [111, 107])),
  ([(vi 1)], (vs [110, 105, 108])),
  ([(vi 7)], (vs [105, 110, 118, 97, 108, 105, 100])),
  ([(vi 9)], (vs [110, 111, 110, 101])),
  ([(vi 2)], (vs [97, 114, 103])),
  ([(vi 10)], (vs [102, 117, 108, 108])),
  ([(vi 8)], (vs [116, 119, 105, 99, 101])),
  ([(vi 13)], (vs [99, 114, 97, 115, 104])),
  ([(vi 11)], (vs [112, 111, 105, 115, 111, 110, 101, 100]))]
theorem mm66_ok (ts : Nat → TypeId) : memoG tbM379 1000000 66 gm66 11 ts mm66 = true := by kernel_rfl
noncomputable def tbM66 : Tab := tbM379.know 66 (globHook gm66 (memoK mm66))
theorem tbM66_ok : TabOk tbM66 := memoG_ok tbM379_ok (c := Tryz.f66.body.getD .skip) (N := 11) (fn_at Tryz.func66) (by kernel_rfl) (by decide +kernel) mm66_ok
def gm15 : Glb := [(1, [vu 1, vu 10, vu 100, vu 1000, vu 10000, vu 100000, vu 1000000, vu 10000000, vu 100000000, vu 1000000000, vu 10000000000, vu 100000000000, vu 1000000000000, vu 10000000000000, vu 100000000000000, vu 1000000000000000, vu 10000000000000000, vu 100000000000000000, vu 1000000000000000000, vu 10000000000000000000]), (8, [vb 0, vb 1, vb 28, vb 2, vb 29, vb 14, vb 24, vb 3, vb 30, vb 22, vb 20, vb 15, vb 25, vb 17, vb 4, vb 8, vb 31, vb 27, vb 13, vb 23, vb 21, vb 19, vb 16, vb 7, vb 26, vb 12, vb 18, vb 6, vb 11, vb 5, vb 10, vb 9]), (9, [vb 0, vb 1, vb 56, vb 2, vb 57, vb 49, vb 28, vb 3, vb 61, vb 58, vb 42, vb 50, vb 38, vb 29, vb 17, vb 4, vb 62, vb 47, vb 59, vb 36, vb 45, vb 43, vb 51, vb 22, vb 53, vb 39, vb 33, vb 30, vb 24, vb 18, vb 12, vb 5, vb 63, vb 55, vb 48, vb 27, vb 60, vb 41, vb 37, vb 16, vb 46, vb 35, vb 44, vb 21, vb 52, vb 32, vb 23, vb 11, vb 54, vb 26, vb 40, vb 15, vb 34, vb 20, vb 31, vb 10, vb 25, vb 14, vb 19, vb 9, vb 13, vb 8, vb 7, vb 6])]
def mm15 : Memo := [([(vu 0), (vi 36)], (vs [48])),
  ([(vu 1), (vi 10)], (vs [49])),
  ([(vu 4), (vi 10)], (vs [52])),
  ([(vu 100), (vi 10)], (vs [49, 48, 48])),
  ([(vu 100000), (vi 10)], (vs [49, 48, 48, 48, 48, 48])),
  ([(vu 101), (vi 36)], (vs [50, 116])),
  ([(vu 98), (vi 36)], (vs [50, 113])),
  ([(vu 1), (vi 36)], (vs [49])),
  ([(vu 97), (vi 36)], (vs [50, 112])),
  ([(vu 2), (vi 36)], (vs [50])),
  ([(vu 3), (vi 10)], (vs [51])),
  ([(vu 2), (vi 10)], (vs [50])),
  ([(vu 9), (vi 10)], (vs [57])),
  ([(vu 4294967295), (vi 10)], (vs [52, 50, 57, 52, 57, 54, 55, 50, 57, 53])),
  ([(vu 0), (vi 10)], (vs [48])),
  ([(vu 6), (vi 36)], (vs [54])),
  ([(vu 32), (vi 36)], (vs [119])),
  ([(vu 5), (vi 10)], (vs [53])),
  ([(vu 288), (vi 16)], (vs [49, 50, 48])),
  ([(vu 293), (vi 16)], (vs [49, 50, 53])),
  ([(vu 314), (vi 16)], (vs [49, 51, 97])),
  ([(vu 256), (vi 16)], (vs [49, 48, 48])),
  ([(vu 511), (vi 16)], (vs [49, 102, 102]))]
theorem mm15_ok (ts : Nat → TypeId) : memoG tbM66 1000000 15 gm15 11 ts mm15 = true := by kernel_rfl
noncomputable def tbM15 : Tab := tbM66.know 15 (globHook gm15 (memoK mm15))
theorem tbM15_ok : TabOk tbM15 := memoG_ok tbM66_ok (c := Tryz.f15.body.getD .skip) (N := 11) (fn_at Tryz.func15) (by kernel_rfl) (by decide +kernel) mm15_ok
def gd377 : Glb := [(1, [vu 1, vu 10, vu 100, vu 1000, vu 10000, vu 100000, vu 1000000, vu 10000000, vu 100000000, vu 1000000000, vu 10000000000, vu 100000000000, vu 1000000000000, vu 10000000000000, vu 100000000000000, vu 1000000000000000, vu 10000000000000000, vu 100000000000000000, vu 1000000000000000000, vu 10000000000000000000]), (2, [.chan (some 0)]), (3, [.chan (some 0)]), (4, [vb 0, vb 0, vb 0, vb 0, vb 0, vb 0, vb 0, vb 0, vb 0, vb 1, vb 1, vb 1, vb 1, vb 1, vb 0, vb 0, vb 0, vb 0, vb 0, vb 0, vb 0, vb 0, vb 0, vb 0, vb 0, vb 0, vb 0, vb 0, vb 0, vb 0, vb 0, vb 0, vb 1, vb 0, vb 0, vb 0, vb 0, vb 0, vb 0, vb 0, vb 0, vb 0, vb 0, vb 0, vb 0, vb 0, vb 0, vb 0, vb 0, vb 0, vb 0, vb 0, vb 0, vb 0, vb 0, vb 0, vb 0, vb 0, vb 0, vb 0, vb 0, vb 0, vb 0, vb 0, vb 0, vb 0, vb 0, vb 0, vb 0, vb 0, vb 0, vb 0, vb 0, vb 0, vb 0, vb 0, vb 0, vb 0, vb 0, vb 0, vb 0, vb 0, vb 0, vb 0, vb 0, vb 0, vb 0, vb 0, vb 0, vb 0, vb 0, vb 0, vb 0, vb 0, vb 0, vb 0, vb 0, vb 0, vb 0, vb 0, vb 0, vb 0, vb 0, vb 0, vb 0, vb 0, vb 0, vb 0, vb 0, vb 0, vb 0, vb 0, vb 0, vb 0, vb 0, vb 0, vb 0, vb 0, vb 0, vb 0, vb 0, vb 0, vb 0, vb 0, vb 0, vb 0, vb 0, vb 0, vb 0, vb 0, vb 0, vb 0, vb 0, vb 0, vb 0, vb 0, vb 0, vb 0, vb 0, vb 0, vb 0, vb 0, vb 0, vb 0, vb 0, vb 0, vb 0, vb 0, vb 0, vb 0, vb 0, vb 0, vb 0, vb 0, vb 0, vb 0, vb 0, vb 0, vb 0, vb 0, vb 0, vb 0, vb 0, vb 0, vb 0, vb 0, vb 0, vb 0, vb 0, vb 0, vb 0, vb 0, vb 0, vb 0, vb 0, vb 0, vb 0, vb 0, vb 0, vb 0, vb 0, vb 0, vb 0, vb 0, vb 0, vb 0, vb 0, vb 0, vb 0, vb 0, vb 0, vb 0, vb 0, vb 0, vb 0, vb 0, vb 0, vb 0, vb 0, vb 0, vb 0, vb 0, vb 0, vb 0, vb 0, vb 0, vb 0, vb 0, vb 0, vb 0, vb 0, vb 0, vb 0, vb 0, vb 0, vb 0, vb 0, vb 0, vb 0, vb 0, vb 0, vb 0, vb 0, vb 0, vb 0, vb 0, vb 0, vb 0, vb 0, vb 0, vb 0, vb 0, vb 0, vb 0, vb 0, vb 0, vb 0, vb 0, vb 0, vb 0, vb 0, vb 0, vb 0, vb 0, vb 0, vb 0, vb 0, vb 0, vb 0, vb 0, vb 0, vb 0, vb 0, vb 0, vb 0, vb 0]), (8, [vb 0, vb 1, vb 28, vb 2, vb 29, vb 14, vb 24, vb 3, vb 30, vb 22, vb 20, vb 15, vb 25, vb 17, vb 4, vb 8, vb 31, vb 27, vb 13, vb 23, vb 21, vb 19, vb 16, vb 7, vb 26, vb 12, vb 18, vb 6, vb 11, vb 5, vb 10, vb 9]), (9, [vb 0, vb 1, vb 56, vb 2, vb 57, vb 49, vb 28, vb 3, vb 61, vb 58, vb 42, vb 50, vb 38, vb 29, vb 17, vb 4, vb 62, vb 47, vb 59, vb 36, vb 45, vb 43, vb 51, vb 22, vb 53, vb 39, vb 33, vb 30, vb 24, vb 18, vb 12, vb 5, vb 63, vb 55, vb 48, vb 27, vb 60, vb 41, vb 37, vb 16, vb 46, vb 35, vb 44, vb 21, vb 52, vb 32, vb 23, vb 11, vb 54, vb 26, vb 40, vb 15, vb 34, vb 20, vb 31, vb 10, vb 25, vb 14, vb 19, vb 9, vb 13, vb 8, vb 7, vb 6])]
end Go.Proofs.YtgcineegnihcmaaGreatDoor.kn
