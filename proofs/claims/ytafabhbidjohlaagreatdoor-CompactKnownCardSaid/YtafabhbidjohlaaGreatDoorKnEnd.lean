/-
  Known: the tables of what is known; the closed run.
-/
import Derived.Test.YtafabhbidjohlaaGreatDoorKnBase
import Derived.Test.YtafabhbidjohlaaGreatDoorKnS
namespace Go.Proofs.YtafabhbidjohlaaGreatDoor.kn
open Go.Am
set_option linter.unusedSimpArgs false
set_option maxRecDepth 100000
noncomputable def tbS : Tab := tb0.know 74 (sortHook tb0 [knS.k119] 9 isStrV ltStrV)
theorem saysS : ∀ D ∈ [knS.k119], SortSays tb0 74 D 9 isStrV ltStrV := by
  intro D hD
  simp only [List.mem_cons, List.not_mem_nil, or_false] at hD
  rcases hD with rfl
  · exact knS.says knS.k119_ok knS.k119_step

theorem tbS_ok : TabOk tbS := know_ok tb0_ok (sort_ok (c := Tryz.f74.body.getD .skip) tb0_ok (fn_at Tryz.func74) (by kernel_rfl) (by kernel_rfl) ltStr_on saysS)

noncomputable def gC : Code := Tryz.f83.body.getD .skip
noncomputable def gC2 : Code := Tryz.f134.body.getD .skip
def defX (o : Oper) : Nat :=
  match o.op with
  | .defer c => match c.callee with
    | .value (.tmp x) => x
    | _ => 0
  | _ => 0
noncomputable def dGet : DefF := { f := 83, fn := Tryz.f83, c0 := sub gC [0], id1 := 1, o1 := opAt (sub gC [1,0]) 0, od := opAt (sub gC [1,0]) 1, c2 := sub gC [1,1], x := defX (opAt (sub gC [1,0]) 1), g := 134, gf := Tryz.f134, id3 := 0, orc := opAt (sub gC2 [0]) 0, t := (opAt (sub gC2 [0]) 0).dst.getD 0, c3 := sub gC2 [1] }
theorem dGet_ok : DefOk tbS dGet where
  hf := fn_at Tryz.func83
  hb := by kernel_rfl
  hod := by kernel_rfl
  go1 := by kernel_rfl
  god := by kernel_rfl
  dod := by kernel_rfl
  hg := fn_at Tryz.func134
  hgb := by kernel_rfl
  horc := by kernel_rfl
  dorc := by kernel_rfl
  gorc := by kernel_rfl
  ht := by show Nat.lt _ _; exact Nat.le_of_ble_eq_true (by kernel_rfl)
  hres := by kernel_rfl
  hng := by kernel_rfl
noncomputable def tbG : Tab := tbS.know 83 (deferHook tbS dGet 100000)
theorem tbG_ok : TabOk tbG := know_ok tbS_ok (defer_ok tbS_ok dGet_ok 100000)
theorem works4 : isTrue (callX tbG 1000000 4 [] mem0) = true := by decide +kernel
noncomputable def tbG4 : Tab := tbG.know 4 (pureHook spTrue)
theorem tbG4_ok : TabOk tbG4 := know_true (c := Tryz.f4.body.getD .skip) tbG_ok (fn_at Tryz.func4) (by kernel_rfl) works4
noncomputable def tbK : Tab := tbG4
theorem tbK_ok : TabOk tbK := tbG4_ok
theorem knownX : isTrue (callX tbK 1000000 3 [] mem0) = true := by decide +kernel
theorem known : isTrue (call tbK 1000000 3 [] mem0) = true := by
  rw [← callX_eq]
  exact knownX
end Go.Proofs.YtafabhbidjohlaaGreatDoor.kn
