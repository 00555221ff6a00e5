/-
  Known: the table of the program; functions without a text.
-/
import Derived.Test.YtbgbjdihdihmhaaGreatDoorAmD
import Derived.Test.YtbgbjdihdihmhaaGreatDoorChecked
import Derived.KernelRfl
namespace Go.Proofs.YtbgbjdihdihmhaaGreatDoor.kn
open Go.Am
set_option linter.unusedSimpArgs false
set_option maxRecDepth 100000
noncomputable def exts : T Nat := ((((T.e.set 431 1).set 432 3).set 266 4).set 446 5)
theorem ext431 : ExR 1 Tryz.f431 := ⟨by kernel_rfl, by kernel_rfl, by kernel_rfl, by show Extern.find Tryz.f431 = some Extern.AbiNoEscape.same; kernel_rfl⟩
theorem ext432 : ExR 3 Tryz.f432 := ⟨by kernel_rfl, by kernel_rfl, by kernel_rfl, by show Extern.find Tryz.f432 = some (Extern.BytealgMakeNoZero.makeNoZero Tryz.f432.params Tryz.f432.resultTypes); kernel_rfl⟩
theorem ext266 : ExR 4 Tryz.f266 := ⟨by kernel_rfl, by kernel_rfl, by kernel_rfl, by show Extern.find Tryz.f266 = some Extern.MapsClone.clone; kernel_rfl⟩
theorem ext446 : ExR 5 Tryz.f446 := ⟨by kernel_rfl, by kernel_rfl, by kernel_rfl, by show Extern.find Tryz.f446 = (Extern.MathBitsCarry.rows[0]?).map (·.2); kernel_rfl⟩
theorem exts_ok : ∀ f k fn, exts.get f = some k → Tryz.checked.prog.funcs[f]? = some fn → ExR k fn := by
  intro f k fn h hf
  unfold exts at h
  simp only [T.get_set, T.get_e] at h
  split at h
  · rename_i e
    subst e
    cases h
    cases Option.some.inj (hf.symm.trans Tryz.func446)
    exact ext446
  split at h
  · rename_i e
    subst e
    cases h
    cases Option.some.inj (hf.symm.trans Tryz.func266)
    exact ext266
  split at h
  · rename_i e
    subst e
    cases h
    cases Option.some.inj (hf.symm.trans Tryz.func432)
    exact ext432
  split at h
  · rename_i e
    subst e
    cases h
    cases Option.some.inj (hf.symm.trans Tryz.func431)
    exact ext431
  cases h
noncomputable def tbX : Tab := tabOf Tryz.checked.prog exts
theorem tbX_ok : TabOk tbX := tabOf_ok Tryz.checked _ exts_ok
theorem fn_atX {k : Nat} {fn : Func} (h : Tryz.prog.funcs[k]? = some fn) : tbX.fn.get k = some fn := by
  show (T.ofList Tryz.checked.prog.funcs.toList).get k = _
  rw [T.get_ofList, Array.getElem?_toList]
  exact h
/-- How many bits a small number has. -/
def lenN (n : Nat) : Nat := if n = 0 then 0 else if n = 1 then 1 else if n < 4 then 2 else if n < 8 then 3 else 4
noncomputable def isInt (x : R Res) (k : Nat) : Bool :=
  match x with
  | .ok (.val (.int .i64 (.ofNat m)) _) => Nat.beq m k
  | _ => false
theorem len_true : ((List.range 13).all fun j => isInt (call tbX 1000 242 [.int .u64 (.ofNat j)] mem0) (lenN j)) = true := by decide +kernel
def lenK : List Value → Option Value
  | [.int .u64 (.ofNat n)] => if n ≤ 12 then some (.int .i64 (.ofNat (lenN n))) else none
  | _ => none
theorem hook_len : HookOk tbX.P 242 (pureHook lenK) := by
  refine hook_pure tbX_ok (f := 242) (fn := Tryz.f242) (fn_atX Tryz.func242) (c := (Tryz.f242.body).getD .skip) (by kernel_rfl) fun args v h => ?_
  unfold lenK at h
  split at h
  · rename_i n
    split at h
    · rename_i hn
      cases h
      have hr := List.all_eq_true.1 len_true n (by simp; omega)
      revert hr
      cases hc : call tbX 1000 242 [.int .u64 (.ofNat n)] mem0 with
      | no _ => intro hw; cases hw
      | ok r =>
        cases r with
        | pan _ _ => intro hw; cases hw
        | val v A =>
          intro hw
          unfold isInt at hw
          split at hw
          · rename_i m A2 heq
            cases heq
            have e := Nat.eq_of_beq_eq_true hw
            rw [← e]
            exact ⟨by simp [flat], by simp [flat], 1000, _, hc⟩
          · cases hw
    · cases h
  · cases h
noncomputable def tb0 : Tab := tbX.know 242 (pureHook lenK)
theorem tb0_ok : TabOk tb0 := know_ok tbX_ok hook_len
theorem kLen {ih : Code → St → R (Ex × St)} {A : Mem} {n : Nat} (h : n ≤ 12) : callF tb0 ih (.fn 242 [.int .u64 (n : Int)]) A = .ok (.val (.int .i64 ((lenN n : Nat) : Int)) A) :=
  callF_known (c := (Tryz.f242.body).getD .skip) (fn_atX Tryz.func242) (by kernel_rfl) (by kernel_rfl) (h := pureHook lenK) (by kernel_rfl) (by
    unfold pureHook
    show (match lenK [.int .u64 (.ofNat n)] with | some v => R.ok (v, A) | none => .no 600) = _
    simp only [lenK]
    rw [if_pos h]
    rfl)
theorem fn_at {k : Nat} {fn : Func} (h : Tryz.prog.funcs[k]? = some fn) : tb0.fn.get k = some fn := by
  show (T.ofList Tryz.checked.prog.funcs.toList).get k = _
  rw [T.get_ofList, Array.getElem?_toList]
  exact h
/-- One operation of a piece of code. -/
def opAt (c : Code) (i : Nat) : Oper :=
  match c with
  | .region _ ops _ => ops.toList.getD i default
  | _ => default
def mapT (c : Code) : TypeId :=
  match (opAt c 0).op with
  | .load t _ => t
  | _ => 0
noncomputable def mapK (tb : Tab) (t : TypeId) : TypeId :=
  match tb.und t with
  | some (.map k _) => k
  | _ => 0
noncomputable def mapV (tb : Tab) (t : TypeId) : TypeId :=
  match tb.und t with
  | some (.map _ v) => v
  | _ => 0
end Go.Proofs.YtbgbjdihdihmhaaGreatDoor.kn
