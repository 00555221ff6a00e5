/-
  Known: the tables of what is known; the closed run.
-/
import Derived.Test.YtkcbgcioijebeaaGreatDoorKnBase
import Derived.Test.YtkcbgcioijebeaaGreatDoorKnS
namespace Go.Proofs.YtkcbgcioijebeaaGreatDoor.kn
open Go.Am
set_option linter.unusedSimpArgs false
set_option maxRecDepth 100000
noncomputable def tbS : Tab := tb0.know 207 (sortHook tb0 [knS.k222] 9 isStrV ltStrV)
theorem saysS : ∀ D ∈ [knS.k222], SortSays tb0 207 D 9 isStrV ltStrV := by
  intro D hD
  simp only [List.mem_cons, List.not_mem_nil, or_false] at hD
  rcases hD with rfl
  · exact knS.says knS.k222_ok knS.k222_step

theorem tbS_ok : TabOk tbS := know_ok tb0_ok (sort_ok (c := Tryz.f207.body.getD .skip) tb0_ok (fn_at Tryz.func207) (by kernel_rfl) (by kernel_rfl) ltStr_on saysS)

noncomputable def gC : Code := Tryz.f60.body.getD .skip
noncomputable def gC2 : Code := Tryz.f105.body.getD .skip
def defX (o : Oper) : Nat :=
  match o.op with
  | .defer c => match c.callee with
    | .value (.tmp x) => x
    | _ => 0
  | _ => 0
noncomputable def dGet : DefF := { f := 60, fn := Tryz.f60, c0 := sub gC [0], id1 := 1, o1 := opAt (sub gC [1,0]) 0, od := opAt (sub gC [1,0]) 1, c2 := sub gC [1,1], x := defX (opAt (sub gC [1,0]) 1), g := 105, gf := Tryz.f105, id3 := 0, orc := opAt (sub gC2 [0]) 0, t := (opAt (sub gC2 [0]) 0).dst.getD 0, c3 := sub gC2 [1] }
theorem dGet_ok : DefOk tbS dGet where
  hf := fn_at Tryz.func60
  hb := by kernel_rfl
  hod := by kernel_rfl
  go1 := by kernel_rfl
  god := by kernel_rfl
  dod := by kernel_rfl
  hg := fn_at Tryz.func105
  hgb := by kernel_rfl
  horc := by kernel_rfl
  dorc := by kernel_rfl
  gorc := by kernel_rfl
  ht := by show Nat.lt _ _; exact Nat.le_of_ble_eq_true (by kernel_rfl)
  hres := by kernel_rfl
  hng := by kernel_rfl
noncomputable def tbG : Tab := tbS.know 60 (deferHook tbS dGet 100000)
theorem tbG_ok : TabOk tbG := know_ok tbS_ok (defer_ok tbS_ok dGet_ok 100000)
theorem known : isTrue (call tbG 1000000 3 [] mem0) = true := by decide +kernel
end Go.Proofs.YtkcbgcioijebeaaGreatDoor.kn
