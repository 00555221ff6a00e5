/-
  Known: the table of the program; functions without a text.
-/
import Derived.Test.YtgcineegnihcmaaGreatDoorAmD
import Derived.Test.YtgcineegnihcmaaGreatDoorChecked
import Derived.KernelRfl
namespace Go.Proofs.YtgcineegnihcmaaGreatDoor.kn
open Go.Am
set_option linter.unusedSimpArgs false
set_option maxRecDepth 100000
noncomputable def exts : T Nat := ((((((T.e.set 72 1).set 92 3).set 200 4).set 560 5).set 122 6).set 119 7)
theorem ext72 : ExR 1 Tryz.f72 := ⟨by kernel_rfl, by kernel_rfl, by kernel_rfl, by show Extern.find Tryz.f72 = some Extern.AbiNoEscape.same; kernel_rfl⟩
theorem ext92 : ExR 3 Tryz.f92 := ⟨by kernel_rfl, by kernel_rfl, by kernel_rfl, by show Extern.find Tryz.f92 = some (Extern.BytealgMakeNoZero.makeNoZero Tryz.f92.params Tryz.f92.resultTypes); kernel_rfl⟩
theorem ext200 : ExR 4 Tryz.f200 := ⟨by kernel_rfl, by kernel_rfl, by kernel_rfl, by show Extern.find Tryz.f200 = some Extern.MapsClone.clone; kernel_rfl⟩
theorem ext560 : ExR 5 Tryz.f560 := ⟨by kernel_rfl, by kernel_rfl, by kernel_rfl, by show Extern.find Tryz.f560 = (Extern.MathBitsCarry.rows[0]?).map (·.2); kernel_rfl⟩
theorem ext122 : ExR 6 Tryz.f122 := ⟨by kernel_rfl, by kernel_rfl, by kernel_rfl, by show Extern.find Tryz.f122 = some Extern.BytealgCount.count; kernel_rfl⟩
theorem ext119 : ExR 7 Tryz.f119 := ⟨by kernel_rfl, by kernel_rfl, by kernel_rfl, by show Extern.find Tryz.f119 = some Extern.BytealgIndexByte.indexByte; kernel_rfl⟩
theorem exts_ok : ∀ f k fn, exts.get f = some k → Tryz.checked.prog.funcs[f]? = some fn → ExR k fn := by
  intro f k fn h hf
  unfold exts at h
  simp only [T.get_set, T.get_e] at h
  split at h
  · rename_i e
    subst e
    cases h
    cases Option.some.inj (hf.symm.trans Tryz.func119)
    exact ext119
  split at h
  · rename_i e
    subst e
    cases h
    cases Option.some.inj (hf.symm.trans Tryz.func122)
    exact ext122
  split at h
  · rename_i e
    subst e
    cases h
    cases Option.some.inj (hf.symm.trans Tryz.func560)
    exact ext560
  split at h
  · rename_i e
    subst e
    cases h
    cases Option.some.inj (hf.symm.trans Tryz.func200)
    exact ext200
  split at h
  · rename_i e
    subst e
    cases h
    cases Option.some.inj (hf.symm.trans Tryz.func92)
    exact ext92
  split at h
  · rename_i e
    subst e
    cases h
    cases Option.some.inj (hf.symm.trans Tryz.func72)
    exact ext72
  cases h
noncomputable def tbX : Tab := tabOf Tryz.checked.prog exts
theorem tbX_ok : TabOk tbX := tabOf_ok Tryz.checked _ exts_ok
theorem fn_atX {k : Nat} {fn : Func} (h : Tryz.prog.funcs[k]? = some fn) : tbX.fn.get k = some fn := by
  show (T.ofList Tryz.checked.prog.funcs.toList).get k = _
  rw [T.get_ofList, Array.getElem?_toList]
  exact h
/-- How many bits a small number has. -/
def lenN (n : Nat) : Nat := if n = 0 then 0 else if n = 1 then 1 else if n < 4 then 2 else if n < 8 then 3 else 4
noncomputable def isInt (x : R Res) (k : Nat) : Bool :=
  match x with
  | .ok (.val (.int .i64 (.ofNat m)) _) => Nat.beq m k
  | _ => false
theorem len_true : ((List.range 13).all fun j => isInt (call tbX 1000 249 [.int .u64 (.ofNat j)] mem0) (lenN j)) = true := by decide +kernel
def lenK : List Value → Option Value
  | [.int .u64 (.ofNat n)] => if n ≤ 12 then some (.int .i64 (.ofNat (lenN n))) else none
  | _ => none
theorem hook_len : HookOk tbX.P 249 (pureHook lenK) := by
  refine hook_pure tbX_ok (f := 249) (fn := Tryz.f249) (fn_atX Tryz.func249) (c := (Tryz.f249.body).getD .skip) (by kernel_rfl) fun args v h => ?_
  unfold lenK at h
  split at h
  · rename_i n
    split at h
    · rename_i hn
      cases h
      have hr := List.all_eq_true.1 len_true n (by simp; omega)
      revert hr
      cases hc : call tbX 1000 249 [.int .u64 (.ofNat n)] mem0 with
      | no _ => intro hw; cases hw
      | ok r =>
        cases r with
        | pan _ _ => intro hw; cases hw
        | val v A =>
          intro hw
          unfold isInt at hw
          split at hw
          · rename_i m A2 heq
            cases heq
            have e := Nat.eq_of_beq_eq_true hw
            rw [← e]
            exact ⟨by simp [flat], by simp [flat], 1000, _, hc⟩
          · cases hw
    · cases h
  · cases h
noncomputable def tb0 : Tab := tbX.know 249 (pureHook lenK)
theorem tb0_ok : TabOk tb0 := know_ok tbX_ok hook_len
theorem kLen {ih : Code → St → R (Ex × St)} {A : Mem} {n : Nat} (h : n ≤ 12) : callF tb0 ih (.fn 249 [.int .u64 (n : Int)]) A = .ok (.val (.int .i64 ((lenN n : Nat) : Int)) A) :=
  callF_known (c := (Tryz.f249.body).getD .skip) (fn_atX Tryz.func249) (by kernel_rfl) (by kernel_rfl) (h := pureHook lenK) (by kernel_rfl) (by
    unfold pureHook
    show (match lenK [.int .u64 (.ofNat n)] with | some v => R.ok (v, A) | none => .no 600) = _
    simp only [lenK]
    rw [if_pos h]
    rfl)
theorem fn_at {k : Nat} {fn : Func} (h : Tryz.prog.funcs[k]? = some fn) : tb0.fn.get k = some fn := by
  show (T.ofList Tryz.checked.prog.funcs.toList).get k = _
  rw [T.get_ofList, Array.getElem?_toList]
  exact h
/-- One operation of a piece of code. -/
def opAt (c : Code) (i : Nat) : Oper :=
  match c with
  | .region _ ops _ => ops.toList.getD i default
  | _ => default
def mapT (c : Code) : TypeId :=
  match (opAt c 0).op with
  | .load t _ => t
  | _ => 0
noncomputable def mapK (tb : Tab) (t : TypeId) : TypeId :=
  match tb.und t with
  | some (.map k _) => k
  | _ => 0
noncomputable def mapV (tb : Tab) (t : TypeId) : TypeId :=
  match tb.und t with
  | some (.map _ v) => v
  | _ => 0
end Go.Proofs.YtgcineegnihcmaaGreatDoor.kn
