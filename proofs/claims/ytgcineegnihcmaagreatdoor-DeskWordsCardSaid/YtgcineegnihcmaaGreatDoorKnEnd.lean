/-
  Known: the tables of what is known; the closed run.
-/
import Derived.Test.YtgcineegnihcmaaGreatDoorKnBase
import Derived.Test.YtgcineegnihcmaaGreatDoorKnS
import Derived.Test.YtgcineegnihcmaaGreatDoorKnB
namespace Go.Proofs.YtgcineegnihcmaaGreatDoor.kn
open Go.Am
set_option linter.unusedSimpArgs false
set_option maxRecDepth 100000
noncomputable def tbS : Tab := tb0.know 157 (sortHook tb0 [knS.k203] 12 9 isStrV ltStrV)
theorem saysS : ∀ D ∈ [knS.k203], SortSays tb0 157 D 12 9 isStrV ltStrV := by
  intro D hD
  simp only [List.mem_cons, List.not_mem_nil, or_false] at hD
  rcases hD with rfl
  · exact knS.says0 knS.k203_ok knS.k203_step

theorem tbS_ok : TabOk tbS := know_ok tb0_ok (sort_ok (c := Tryz.f157.body.getD .skip) tb0_ok (fn_at Tryz.func157) (by kernel_rfl) (by kernel_rfl) ltStr_on saysS)
noncomputable def tbB : Tab := tbS.know 522 (sortHook tb0 [knB.k572, knB.k662] 12 5 isU8V ltU8V)
theorem saysB : ∀ D ∈ [knB.k572, knB.k662], SortSays tb0 522 D 12 5 isU8V ltU8V := by
  intro D hD
  simp only [List.mem_cons, List.not_mem_nil, or_false] at hD
  rcases hD with rfl | rfl
  · exact knB.says0 knB.k572_ok knB.k572_step
  · exact knB.says0 knB.k662_ok knB.k662_step

theorem tbB_ok : TabOk tbB := know_ok tbS_ok (sort_ok (c := Tryz.f522.body.getD .skip) tb0_ok (fn_at Tryz.func522) (by kernel_rfl) (by kernel_rfl) ltU8_on saysB)

noncomputable def gC : Code := Tryz.f376.body.getD .skip
noncomputable def gC2 : Code := Tryz.f435.body.getD .skip
def defX (o : Oper) : Nat :=
  match o.op with
  | .defer c => match c.callee with
    | .value (.tmp x) => x
    | _ => 0
  | _ => 0
noncomputable def dGet : DefF := { f := 376, fn := Tryz.f376, c0 := sub gC [0], id1 := 1, o1 := opAt (sub gC [1,0]) 0, od := opAt (sub gC [1,0]) 1, c2 := sub gC [1,1], x := defX (opAt (sub gC [1,0]) 1), g := 435, gf := Tryz.f435, id3 := 0, orc := opAt (sub gC2 [0]) 0, t := (opAt (sub gC2 [0]) 0).dst.getD 0, c3 := sub gC2 [1] }
theorem dGet_ok : DefOk tbB dGet where
  hf := fn_at Tryz.func376
  hb := by kernel_rfl
  hod := by kernel_rfl
  go1 := by kernel_rfl
  god := by kernel_rfl
  dod := by kernel_rfl
  hg := fn_at Tryz.func435
  hgb := by kernel_rfl
  horc := by kernel_rfl
  dorc := by kernel_rfl
  gorc := by kernel_rfl
  ht := by show Nat.lt _ _; exact Nat.le_of_ble_eq_true (by kernel_rfl)
  hres := by kernel_rfl
  hng := by kernel_rfl
noncomputable def tbG : Tab := tbB.know 376 (deferHook tbB dGet 100000)
theorem tbG_ok : TabOk tbG := know_ok tbB_ok (defer_ok tbB_ok dGet_ok 100000)
noncomputable def tbK : Tab := tbG
theorem tbK_ok : TabOk tbK := tbG_ok
theorem nothing : True := trivial
end Go.Proofs.YtgcineegnihcmaaGreatDoor.kn
