/-
  The closed statement ModelKnown holds: the abstract machine AM, run by the kernel over the program's own text, answers true; what it answers the model answers. No conditions.
-/
import Derived.Test.YtginlomlgalcmabRows
import Derived.Test.YtginlomlgalcmabAmE
import Derived.KernelRfl
import Derived.WalkKit
import Derived.ProofKit
import Derived.OpenShut
namespace Go.Proofs.Ytginlomlgalcmab.modelKnown
open Go.ChangeShapes Go.WideShapes Go.ChangeAt Go.RowKit Go.Am
set_option linter.unusedVariables false      -- a walk need not use every 'w<i>' (that an integer argument fits its kind)

theorem own : ownKnob Try.prog.godebug = none := by kernel_rfl

/-! ### The run -/

noncomputable def exts : T Nat := ((T.e.set 75 1).set 76 3)
theorem ext75 : ExR 1 Try.f75 := ⟨by kernel_rfl, by kernel_rfl, by kernel_rfl, by show Extern.find Try.f75 = some Extern.AbiNoEscape.same; kernel_rfl⟩
theorem ext76 : ExR 3 Try.f76 := ⟨by kernel_rfl, by kernel_rfl, by kernel_rfl, by show Extern.find Try.f76 = some (Extern.BytealgMakeNoZero.makeNoZero Try.f76.params Try.f76.resultTypes); kernel_rfl⟩
theorem exts_ok : ∀ f k fn, exts.get f = some k → Try.checked.prog.funcs[f]? = some fn → ExR k fn := by
  intro f k fn h hf
  unfold exts at h
  simp only [T.get_set, T.get_e] at h
  split at h
  · rename_i e
    subst e
    cases h
    cases Option.some.inj (hf.symm.trans Try.func76)
    exact ext76
  split at h
  · rename_i e
    subst e
    cases h
    cases Option.some.inj (hf.symm.trans Try.func75)
    exact ext75
  cases h
noncomputable def tb : Tab := tabOf Try.checked.prog exts
theorem tb_ok : TabOk tb := tabOf_ok Try.checked _ exts_ok
theorem known : isTrue (call tb 1000000 7 [] mem0) = true := by decide +kernel
theorem func_at : tb.fn.get 7 = some Try.f7 := by
  show (T.ofList Try.checked.prog.funcs.toList).get 7 = _
  rw [T.get_ofList, Array.getElem?_toList]
  exact Try.func7
theorem body_at : Try.f7.body.isSome = true := by kernel_rfl
theorem walk (w : World) : Calls Try.prog 7 #[] w fun e w' => e = .returned (.bool true) ∧ Go.Am.Leaves w w' := by
  obtain ⟨c, hc⟩ := Option.isSome_iff_exists.1 body_at
  exact call_true tb_ok known func_at hc #[] w .nil

/-! ### THE ROW's STEP: WRITTEN OUT: LEAVE IT -/
set_option maxRecDepth 100000 in
theorem lifted (os : Os) (started : os.Started) (H : Type) (enc : TypeId × Value → H) :
    ReturnsInHanded {} Try.checked os 7 .any (Rows.modelKnownSpec.pre6 enc Try.prog Try.f7 Rows.modelKnownRow.domain false) (Rows.modelKnownSpec.post enc Try.prog Try.f7 false true false false) := by
  refine returnsInHanded_of_change (C := Try.checked) own started (by kernel_rfl) Try.func7
    (ChangeSpec.witness6 (enc := enc) (C := Try.checked) false ⟨#[], #[], []⟩ 8 (by kernel_rfl) (by kernel_rfl) (by kernel_rfl) (by kernel_rfl)) ?_
  intro W base args ds gs before hval0 hW hcnd _
  have hval : ∀ (j : Nat) t v, Try.f7.params[j]? = some t → args[j]? = some v → Value.okWide Try.prog W .any base t v := hval0
  have hW' := hW
  obtain ⟨p, q, hA0, hV, rfl, hfz, hnd⟩ := hW
  have hA : DataW.TrodAll enc Try.prog W 0 (fun _ => true) true Try.f7.params.toList args.toList ds p := hA0
  rw [Try.params7] at hA hval
  obtain ⟨rfl, rfl, rfl⟩ := trodAll_none hA
  obtain ⟨rfl, rfl⟩ := trodVars_none hV
  clear hA0 hval0
  simp only [List.append_nil] at hW'
  refine (walk  W).mono fun e W' ⟨he, hg⟩ => ?_
  subst he
  exact ⟨_, rfl, postLaw (pa := []) (pv := []) hg hW' rfl (fun _ _ _ => (trodAll_cons_mk (shut_bool Try.underlying4 _) trodAll_mk0)) (fun sp _ => rfl) (fun _ _ => rfl)
    (ok_one (by kernel_rfl) rfl (okWide_bool_mk Try.underlying4 _))⟩

theorem over : Rows.modelKnownRow.holds Try.pinned (OpenSpec.ofChange Rows.modelKnownSpec) :=
  OpenClaim.holds_of_wide 7 Try.f7 rfl rfl rfl rfl rfl rfl rfl ⟨rfl, rfl, rfl, rfl, rfl⟩ rfl rfl rfl rfl rfl (by kernel_rfl) Try.func7 (by kernel_rfl)
    (of_decide_eq_true (by kernel_rfl)) (by unfold Func.isWrapper; first | (rw [if_pos (by decide +kernel)]; kernel_rfl) | (rw [if_neg (by decide +kernel)]; exact ⟨rfl, rfl⟩))
    (fun os started H enc _ => lifted os started H enc)

/-- ████ THE STATEMENT ████ -/
theorem proved : Rows.ModelKnownSaid :=
  over
#print axioms proved
end Go.Proofs.Ytginlomlgalcmab.modelKnown
