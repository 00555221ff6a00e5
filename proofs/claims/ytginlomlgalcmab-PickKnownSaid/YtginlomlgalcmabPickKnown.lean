/-
  The closed statement PickKnown holds: the abstract machine AM, run by the kernel over the program's own text, answers true; what it answers the model answers. No conditions.
-/
import Derived.Test.YtginlomlgalcmabRows
import Derived.Test.YtginlomlgalcmabAmE
import Derived.KernelRfl
import Derived.WalkKit
import Derived.ProofKit
import Derived.OpenShut
namespace Go.Proofs.Ytginlomlgalcmab.pickKnown
open Go.ChangeShapes Go.WideShapes Go.ChangeAt Go.RowKit Go.Am
set_option linter.unusedVariables false      -- a walk need not use every 'w<i>' (that an integer argument fits its kind)

theorem own : ownKnob Try.prog.godebug = none := by kernel_rfl

/-! ### The run -/

noncomputable def tb : Tab := tabOf Try.checked.prog .e
theorem tb_ok : TabOk tb := tabOf_ok Try.checked _ fun f k fn h => by cases h
theorem known : isTrue (call tb 1000000 6 [] mem0) = true := by decide +kernel
theorem func_at : tb.fn.get 6 = some Try.f6 := by
  show (T.ofList Try.checked.prog.funcs.toList).get 6 = _
  rw [T.get_ofList, Array.getElem?_toList]
  exact Try.func6
theorem body_at : Try.f6.body.isSome = true := by kernel_rfl
theorem walk (w : World) : Calls Try.prog 6 #[] w fun e w' => e = .returned (.bool true) ∧ Go.Am.Leaves w w' := by
  obtain ⟨c, hc⟩ := Option.isSome_iff_exists.1 body_at
  exact call_true tb_ok known func_at hc #[] w .nil

/-! ### THE ROW's STEP: WRITTEN OUT: LEAVE IT -/
set_option maxRecDepth 100000 in
theorem lifted (os : Os) (started : os.Started) (H : Type) (enc : TypeId × Value → H) :
    ReturnsInHanded {} Try.checked os 6 .any (Rows.pickKnownSpec.pre6 enc Try.prog Try.f6 Rows.pickKnownRow.domain false) (Rows.pickKnownSpec.post enc Try.prog Try.f6 false true false false) := by
  refine returnsInHanded_of_change (C := Try.checked) own started (by kernel_rfl) Try.func6
    (ChangeSpec.witness6 (enc := enc) (C := Try.checked) false ⟨#[], #[], []⟩ 8 (by kernel_rfl) (by kernel_rfl) (by kernel_rfl) (by kernel_rfl)) ?_
  intro W base args ds gs before hval0 hW hcnd _
  have hval : ∀ (j : Nat) t v, Try.f6.params[j]? = some t → args[j]? = some v → Value.okWide Try.prog W .any base t v := hval0
  have hW' := hW
  obtain ⟨p, q, hA0, hV, rfl, hfz, hnd⟩ := hW
  have hA : DataW.TrodAll enc Try.prog W 0 (fun _ => true) true Try.f6.params.toList args.toList ds p := hA0
  rw [Try.params6] at hA hval
  obtain ⟨rfl, rfl, rfl⟩ := trodAll_none hA
  obtain ⟨rfl, rfl⟩ := trodVars_none hV
  clear hA0 hval0
  simp only [List.append_nil] at hW'
  refine (walk  W).mono fun e W' ⟨he, hg⟩ => ?_
  subst he
  exact ⟨_, rfl, postLaw (pa := []) (pv := []) hg hW' rfl (fun _ _ _ => (trodAll_cons_mk (shut_bool Try.underlying4 _) trodAll_mk0)) (fun sp _ => rfl) (fun _ _ => rfl)
    (ok_one (by kernel_rfl) rfl (okWide_bool_mk Try.underlying4 _))⟩

theorem over : Rows.pickKnownRow.holds Try.pinned (OpenSpec.ofChange Rows.pickKnownSpec) :=
  OpenClaim.holds_of_wide 6 Try.f6 rfl rfl rfl rfl rfl rfl rfl ⟨rfl, rfl, rfl, rfl, rfl⟩ rfl rfl rfl rfl rfl (by kernel_rfl) Try.func6 (by kernel_rfl)
    (of_decide_eq_true (by kernel_rfl)) (by unfold Func.isWrapper; first | (rw [if_pos (by decide +kernel)]; kernel_rfl) | (rw [if_neg (by decide +kernel)]; exact ⟨rfl, rfl⟩))
    (fun os started H enc _ => lifted os started H enc)

/-- ████ THE STATEMENT ████ -/
theorem proved : Rows.PickKnownSaid :=
  over
#print axioms proved
end Go.Proofs.Ytginlomlgalcmab.pickKnown
