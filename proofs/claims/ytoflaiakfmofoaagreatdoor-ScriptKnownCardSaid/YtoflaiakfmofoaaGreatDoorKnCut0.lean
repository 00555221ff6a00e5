/-
  ScriptKnown: its run in pieces. What is kept at each cut: conditions stand in each theorem.
-/
import Derived.Test.YtoflaiakfmofoaaGreatDoorKnEnd
import Derived.Test.YtoflaiakfmofoaaGreatDoorAmH
namespace Go.Proofs.YtoflaiakfmofoaaGreatDoor.kn
open Go.Am
set_option linter.unusedSimpArgs false
set_option maxRecDepth 100000
noncomputable def cL : Code := Tryz.f3.body.getD .skip
def vi (n : Nat) : Value := .int .i64 (.ofNat n)
def vb (n : Nat) : Value := .int .u8 (.ofNat n)
def vw (n : Nat) : Value := .int .u32 (.ofNat n)
def vu (n : Nat) : Value := .int .u64 (.ofNat n)
def vs (l : List Nat) : Value := .string ⟨⟨l.map UInt8.ofNat⟩⟩
def pn : Value := .pointer none
def vp (b o : Nat) : Value := .pointer (some ⟨b, o, none⟩)
def sn : Value := .slice none 0 0
def vl (b o l c : Nat) : Value := .slice (some ⟨b, o, none⟩) l c
def gl0 : Glb := []
noncomputable def S1 : Snap := ⟨[(0, (.bool false)), (1, (vp 1008 0))],
  [(500, .row 95 .row 0 [(vi 0), (vw 0), sn, (vi 0), (vw 0), sn, (vi 0), (vw 0), sn]),
  (815, .row 3 .row 0 [(vi 1)]),
  (817, .row 3 .row 0 [(vi 2)]),
  (969, .row 52 .row 0 [(vs [97]), (vw 1), (.bool false)]),
  (984, .row 143 .row 0 [(vs [119, 97, 108, 45, 49]), (vs [3, 1, 1, 97, 74, 122, 157, 17])]),
  (1008, .row 28 (.var 8) 0 [(vl 500 0 3 393223), (vl 815 0 1 131075), (vl 817 0 1 131075), (vi 1), (.bool false), (.bool true), (vl 969 0 1 131079), (vl 984 0 1 131077)])], 1009⟩
noncomputable def S2 : Snap := ⟨[(0, (.bool false)), (1, (vp 1008 0)), (2, (vp 2078 0))],
  [(500, .row 95 .row 0 [(vi 0), (vw 0), sn, (vi 0), (vw 0), sn, (vi 0), (vw 0), sn]),
  (815, .row 3 .row 0 [(vi 1)]),
  (817, .row 3 .row 0 [(vi 2)]),
  (969, .row 52 .row 0 [(vs [97]), (vw 1), (.bool false)]),
  (984, .row 143 .row 0 [(vs [119, 97, 108, 45, 49]), (vs [3, 1, 1, 97, 74, 122, 157, 17])]),
  (1008, .row 28 (.var 8) 0 [(vl 500 0 3 393223), (vl 815 0 1 131075), (vl 817 0 1 131075), (vi 1), (.bool false), (.bool true), (vl 969 0 1 131079), (vl 984 0 1 131077)]),
  (1440, .row 95 .row 0 [(vi 0), (vw 0), sn, (vi 0), (vw 0), sn, (vi 0), (vw 0), sn]),
  (1817, .row 3 .row 0 [(vi 2)]),
  (1819, .row 3 .row 0 [(vi 2)]),
  (2039, .row 52 .row 0 [(vs [97]), (vw 1), (.bool false), (vs [98]), (vw 2), (.bool false)]),
  (2054, .row 143 .row 0 [(vs [119, 97, 108, 45, 49]), (vs [3, 1, 1, 97, 74, 122, 157, 17, 3, 1, 2, 98, 51, 120, 185, 163])]),
  (2078, .row 28 (.var 8) 0 [(vl 1440 0 3 393223), (vl 1817 0 1 131075), (vl 1819 0 1 131075), (vi 1), (.bool false), (.bool true), (vl 2039 0 2 262151), (vl 2054 0 1 131077)])], 2079⟩
noncomputable def S3 : Snap := ⟨[(0, (.bool false)), (1, (vp 1008 0)), (2, (vp 2078 0)), (3, (vp 2384 0)), (4, (vi 184))],
  [(500, .row 95 .row 0 [(vi 0), (vw 0), sn, (vi 0), (vw 0), sn, (vi 0), (vw 0), sn]),
  (815, .row 3 .row 0 [(vi 1)]),
  (817, .row 3 .row 0 [(vi 2)]),
  (969, .row 52 .row 0 [(vs [97]), (vw 1), (.bool false)]),
  (984, .row 143 .row 0 [(vs [119, 97, 108, 45, 49]), (vs [3, 1, 1, 97, 74, 122, 157, 17])]),
  (1008, .row 28 (.var 8) 0 [(vl 500 0 3 393223), (vl 815 0 1 131075), (vl 817 0 1 131075), (vi 1), (.bool false), (.bool true), (vl 969 0 1 131079), (vl 984 0 1 131077)]),
  (1440, .row 95 .row 0 [(vi 0), (vw 0), sn, (vi 0), (vw 0), sn, (vi 0), (vw 0), sn]),
  (1817, .row 3 .row 0 [(vi 2)]),
  (1819, .row 3 .row 0 [(vi 2)]),
  (2039, .row 52 .row 0 [(vs [97]), (vw 1), (.bool false), (vs [98]), (vw 2), (.bool false)]),
  (2054, .row 143 .row 0 [(vs [119, 97, 108, 45, 49]), (vs [3, 1, 1, 97, 74, 122, 157, 17, 3, 1, 2, 98, 51, 120, 185, 163])]),
  (2078, .row 28 (.var 8) 0 [(vl 1440 0 3 393223), (vl 1817 0 1 131075), (vl 1819 0 1 131075), (vi 1), (.bool false), (.bool true), (vl 2039 0 2 262151), (vl 2054 0 1 131077)]),
  (2383, .row 44 .row 0 [(vi 0), (vs []), (vw 0), (vi 0), (vi 0), (vi 0), (.bool false), sn, sn, (vi 0), (vs []), (vw 0), (vi 0), (vi 0), (vi 0), (.bool false), sn, sn, (vi 0), (vs []), (vw 0), (vi 0), (vi 0), (vi 0), (.bool false), sn, sn, (vi 0), (vs []), (vw 0), (vi 0), (vi 0), (vi 0), (.bool false), sn, sn, (vi 0), (vs []), (vw 0), (vi 0), (vi 0), (vi 0), (.bool false), sn, sn, (vi 0), (vs []), (vw 0), (vi 0), (vi 0), (vi 0), (.bool false), sn, sn, (vi 0), (vs []), (vw 0), (vi 0), (vi 0), (vi 0), (.bool false), sn, sn, (vi 0), (vs []), (vw 0), (vi 0), (vi 0), (vi 0), (.bool false), sn, sn, (vi 0), (vs []), (vw 0), (vi 0), (vi 0), (vi 0), (.bool false), sn, sn, (vi 0), (vs []), (vw 0), (vi 0), (vi 0), (vi 0), (.bool false), sn, sn, (vi 0), (vs []), (vw 0), (vi 0), (vi 0), (vi 0), (.bool false), sn, sn, (vi 0), (vs []), (vw 0), (vi 0), (vi 0), (vi 0), (.bool false), sn, sn, (vi 0), (vs []), (vw 0), (vi 0), (vi 0), (vi 0), (.bool false), sn, sn, (vi 0), (vs []), (vw 0), (vi 0), (vi 0), (vi 0), (.bool false), sn, sn, (vi 0), (vs []), (vw 0), (vi 0), (vi 0), (vi 0), (.bool false), sn, sn, (vi 0), (vs []), (vw 0), (vi 0), (vi 0), (vi 0), (.bool false), sn, sn, (vi 0), (vs []), (vw 0), (vi 0), (vi 0), (vi 0), (.bool false), sn, sn, (vi 0), (vs []), (vw 0), (vi 0), (vi 0), (vi 0), (.bool false), sn, sn, (vi 0), (vs []), (vw 0), (vi 0), (vi 0), (vi 0), (.bool false), sn, sn, (vi 0), (vs []), (vw 0), (vi 0), (vi 0), (vi 0), (.bool false), sn, sn, (vi 0), (vs []), (vw 0), (vi 0), (vi 0), (vi 0), (.bool false), sn, sn, (vi 0), (vs []), (vw 0), (vi 0), (vi 0), (vi 0), (.bool false), sn, sn, (vi 0), (vs []), (vw 0), (vi 0), (vi 0), (vi 0), (.bool false), sn, sn, (vi 0), (vs []), (vw 0), (vi 0), (vi 0), (vi 0), (.bool false), sn, sn, (vi 0), (vs []), (vw 0), (vi 0), (vi 0), (vi 0), (.bool false), sn, sn, (vi 0), (vs []), (vw 0), (vi 0), (vi 0), (vi 0), (.bool false), sn, sn, (vi 0), (vs []), (vw 0), (vi 0), (vi 0), (vi 0), (.bool false), sn, sn, (vi 0), (vs []), (vw 0), (vi 0), (vi 0), (vi 0), (.bool false), sn, sn, (vi 0), (vs []), (vw 0), (vi 0), (vi 0), (vi 0), (.bool false), sn, sn, (vi 0), (vs []), (vw 0), (vi 0), (vi 0), (vi 0), (.bool false), sn, sn, (vi 0), (vs []), (vw 0), (vi 0), (vi 0), (vi 0), (.bool false), sn, sn, (vi 0), (vs []), (vw 0), (vi 0), (vi 0), (vi 0), (.bool false), sn, sn, (vi 0), (vs []), (vw 0), (vi 0), (vi 0), (vi 0), (.bool false), sn, sn, (vi 0), (vs []), (vw 0), (vi 0), (vi 0), (vi 0), (.bool false), sn, sn, (vi 0), (vs []), (vw 0), (vi 0), (vi 0), (vi 0), (.bool false), sn, sn, (vi 0), (vs []), (vw 0), (vi 0), (vi 0), (vi 0), (.bool false), sn, sn, (vi 0), (vs []), (vw 0), (vi 0), (vi 0), (vi 0), (.bool false), sn, sn, (vi 0), (vs []), (vw 0), (vi 0), (vi 0), (vi 0), (.bool false), sn, sn, (vi 0), (vs []), (vw 0), (vi 0), (vi 0), (vi 0), (.bool false), sn, sn, (vi 0), (vs []), (vw 0), (vi 0), (vi 0), (vi 0), (.bool false), sn, sn, (vi 0), (vs []), (vw 0), (vi 0), (vi 0), (vi 0), (.bool false), sn, sn, (vi 0), (vs []), (vw 0), (vi 0), (vi 0), (vi 0), (.bool false), sn, sn, (vi 0), (vs []), (vw 0), (vi 0), (vi 0), (vi 0), (.bool false), sn, sn, (vi 0), (vs []), (vw 0), (vi 0), (vi 0), (vi 0), (.bool false), sn, sn, (vi 0), (vs []), (vw 0), (vi 0), (vi 0), (vi 0), (.bool false), sn, sn, (vi 0), (vs []), (vw 0), (vi 0), (vi 0), (vi 0), (.bool false), sn, sn, (vi 0), (vs []), (vw 0), (vi 0), (vi 0), (vi 0), (.bool false), sn, sn, (vi 0), (vs []), (vw 0), (vi 0), (vi 0), (vi 0), (.bool false), sn, sn, (vi 0), (vs []), (vw 0), (vi 0), (vi 0), (vi 0), (.bool false), sn, sn, (vi 0), (vs []), (vw 0), (vi 0), (vi 0), (vi 0), (.bool false), sn, sn, (vi 0), (vs []), (vw 0), (vi 0), (vi 0), (vi 0), (.bool false), sn, sn, (vi 0), (vs []), (vw 0), (vi 0), (vi 0), (vi 0), (.bool false), sn, sn, (vi 0), (vs []), (vw 0), (vi 0), (vi 0), (vi 0), (.bool false), sn, sn, (vi 0), (vs []), (vw 0), (vi 0), (vi 0), (vi 0), (.bool false), sn, sn, (vi 0), (vs []), (vw 0), (vi 0), (vi 0), (vi 0), (.bool false), sn, sn, (vi 0), (vs []), (vw 0), (vi 0), (vi 0), (vi 0), (.bool false), sn, sn, (vi 0), (vs []), (vw 0), (vi 0), (vi 0), (vi 0), (.bool false), sn, sn, (vi 0), (vs []), (vw 0), (vi 0), (vi 0), (vi 0), (.bool false), sn, sn, (vi 0), (vs []), (vw 0), (vi 0), (vi 0), (vi 0), (.bool false), sn, sn, (vi 0), (vs []), (vw 0), (vi 0), (vi 0), (vi 0), (.bool false), sn, sn]),
  (2384, .row 35 (.var 4) 0 [(vi 1), (vi 2), (vi 0), (vl 2383 0 60 7864339)])], 2385⟩
end Go.Proofs.YtoflaiakfmofoaaGreatDoor.kn
