/-
  The closed statement DictKnown holds: the abstract machine AM, run by the kernel over the program's own text, answers true; what it answers the model answers. No conditions.
-/
import Derived.Test.YtbgbjdihdihmhaaGreatDoorRows
import Derived.Test.YtbgbjdihdihmhaaGreatDoorKnRun
import Derived.KernelRfl
import Derived.WalkKit
import Derived.Test.YtbgbjdihdihmhaaGreatDoorCards
import Derived.SevenTiedAt
import Derived.ProofKit
import Derived.OpenShut
import Derived.MakeChecks
import Derived.LaidMore
import Derived.Stop.Joined
namespace Go.Proofs.YtbgbjdihdihmhaaGreatDoor.dictKnown
open Go.ChangeShapes Go.WideMaps Go.WideElems Go.WideShapes Go.ChangeAt Go.RowKit Go.Am
set_option linter.unusedVariables false      -- a walk need not use every 'w<i>' (that an integer argument fits its kind)

theorem own : ownKnob Tryz.prog.godebug = none := by kernel_rfl

/-! ### The run -/

theorem body_at : Tryz.f3.body.isSome = true := by kernel_rfl
set_option maxRecDepth 100000 in
theorem walk (w : World) (hw : ∀ k vs, gOf kn.gl0 k = some vs → GAt w k vs) : Calls Tryz.prog 3 #[] w fun e w' => e = .returned (.bool true) ∧ Go.Am.Leaves w w' := by
  exact cut_true kn.tbM17_ok (by kernel_rfl) (kn.fn_at Tryz.func3) kn.body_eq kn.run w hw

/-! ### THE ROW's STEP: WRITTEN OUT: LEAVE IT -/
/-- What the listed tables hold. -/
def laidL : List (String × DataW Unit) := [("internal/strconv.uint64pow10", Rows.laid_internal_strconv_uint64pow10), ("math/bits.deBruijn32tab", Rows.laid_math_bits_deBruijn32tab), ("math/bits.deBruijn64tab", Rows.laid_math_bits_deBruijn64tab), ("strconv.ErrSyntax", Rows.laid_strconv_ErrSyntax), ("strconv.ErrRange", Rows.laid_strconv_ErrRange)]
/-- The methods of an interface type. -/
def ifcOf (d : Option TypeDesc) : Array (String × TypeId) :=
  match d with
  | some (.interface ms) => ms
  | _ => #[]
set_option maxRecDepth 100000 in
theorem gls {W : World} (h : laidMetH Tryz.prog laidL W) : ∀ k vs, gOf kn.gl0 k = some vs → GAt W k vs := by
  rw [Go.MakeChecks.laidMetH_plain _ _ _ (by kernel_rfl)] at h
  intro k vs hk
  have hm := gOf_mem hk
  rcases List.mem_cons.1 hm with e | hm
  · cases e; exact (laid_iface h (show ("strconv.ErrSyntax", Rows.laid_strconv_ErrSyntax) ∈ laidL by simp [laidL]) (t := ((Tryz.prog.globals[4]?).map (·.type)).getD 0) (ms := ifcOf (Tryz.prog.underlying (((Tryz.prog.globals[4]?).map (·.type)).getD 0))) (by kernel_rfl) (by kernel_rfl) (by kernel_rfl)).g
  rcases List.mem_cons.1 hm with e | hm
  · cases e; exact (laid_iface h (show ("strconv.ErrRange", Rows.laid_strconv_ErrRange) ∈ laidL by simp [laidL]) (t := ((Tryz.prog.globals[5]?).map (·.type)).getD 0) (ms := ifcOf (Tryz.prog.underlying (((Tryz.prog.globals[5]?).map (·.type)).getD 0))) (by kernel_rfl) (by kernel_rfl) (by kernel_rfl)).g
  cases hm
/-- The door's own heap meets the condition. -/
theorem door_met (os : Os) (args : Array Value) : laidMetH Tryz.prog laidL ((World.doorLaid Tryz.prog 4000 os).forCall (fun _ _ => 0) ⟨#[], args, []⟩).memory :=
  laidMetH_of_parts3 (fuel := 8) (laidMet_of_run' 8 (by kernel_rfl) (by kernel_rfl)) (by kernel_rfl) (by kernel_rfl)
set_option maxRecDepth 100000 in
theorem lifted (os : Os) (started : os.Started) (H : Type) (enc : TypeId × Value → H) :
    ReturnsInHanded {} Tryz.checked os 3 .any (fun w args => (Rows.dictKnownSpec.pre enc Tryz.prog Tryz.f3 [] false w args ∧ laidMetH Tryz.prog laidL w) ∧ sizedMet enc Tryz.prog Tryz.f3 (OpenSpec.ofChange Rows.dictKnownSpec) false w args)
      (Rows.dictKnownSpec.post enc Tryz.prog Tryz.f3 false true false false) := by
  refine returnsInHanded_of_change_and (C := Tryz.checked) (X := fun w _ => laidMetH Tryz.prog laidL w) (fun _ _ _ hh h => h.of_heap hh) own started (by kernel_rfl) Tryz.func3
    (ChangeSpec.witness_shaped (enc := enc) (C := Tryz.checked) (os := os) (X := fun w _ => laidMetH Tryz.prog laidL w) false (World.doorLaid Tryz.prog 4000 os) #[] 8 rfl (World.shaped_of_RefB (by kernel_rfl) (by kernel_rfl)) (by kernel_rfl) (by kernel_rfl) (by kernel_rfl) (door_met os _)) ?_
  intro W base args ds gs before hval0 hW hcnd _ hL _
  have hval : ∀ (j : Nat) t v, Tryz.f3.params[j]? = some t → args[j]? = some v → Value.okWide Tryz.prog W .any base t v := hval0
  have hW' := hW
  obtain ⟨p, q, hA0, hV, rfl, hfz, hnd⟩ := hW
  have hA : DataW.TrodAll enc Tryz.prog W 0 (fun _ => true) true Tryz.f3.params.toList args.toList ds p := hA0
  rw [Tryz.params3] at hA hval
  obtain ⟨rfl, rfl, rfl⟩ := trodAll_none hA
  obtain ⟨rfl, rfl⟩ := trodVars_none hV
  clear hA0 hval0
  simp only [List.append_nil] at hW'
  refine (walk W (gls hL)).mono fun e W' ⟨he, hg⟩ => ?_
  subst he
  exact ⟨_, rfl, postLaw (pa := []) (pv := []) hg hW' rfl (fun _ _ _ => (trodAll_cons_mk (shut_bool Tryz.underlying4 _) trodAll_mk0)) (fun sp _ => rfl) (fun _ _ => rfl)
    (ok_one (by kernel_rfl) rfl (okWide_bool_mk Tryz.underlying4 _))⟩

end Go.Proofs.YtbgbjdihdihmhaaGreatDoor.dictKnown
