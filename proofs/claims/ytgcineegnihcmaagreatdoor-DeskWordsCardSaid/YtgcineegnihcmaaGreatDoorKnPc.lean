/-
  The statement DeskWords holds: the abstract machine AM, run symbolically over the program's own text, answers true; what it answers the model answers. No conditions.
-/
import Derived.Test.YtgcineegnihcmaaGreatDoorRows
import Derived.Test.YtgcineegnihcmaaGreatDoorDswA
import Derived.Test.YtgcineegnihcmaaGreatDoorKnCut0
import Derived.KernelRfl
import Derived.WalkKit
import Derived.Test.YtgcineegnihcmaaGreatDoorCards
import Derived.SevenTiedAt
import Derived.ProofKit
import Derived.OpenShut
import Derived.MakeChecks
import Derived.LaidMore
import Derived.Lay
import Derived.Stop.Joined
import Derived.Test.YtgcineegnihcmaaGreatDoorKnPd
namespace Go.Proofs.YtgcineegnihcmaaGreatDoor.deskWords
open Go.ChangeShapes Go.WideMaps Go.WideElems Go.WideShapes Go.ChangeAt Go.RowKit Go.Am
set_option linter.unusedVariables false      -- a walk need not use every 'w<i>' (that an integer argument fits its kind)

/-- Where no function at all starts a goroutine, none does. -/
theorem goes_none {P : Program} (h : P.funcs.toList.any Func.goes = false) (s : Start) (f : String) : P.goesAt s f = false := by
  have hg : ∀ g : Nat, (P.funcs[g]?).any Func.goes = false := fun g => by
    cases hq : P.funcs[g]? with
    | none => rfl
    | some x =>
      have := (Array.getElem?_eq_some_iff.1 hq)
      obtain ⟨hl, hx⟩ := this
      cases hx' : Func.goes x with
      | false => simpa using hx'
      | true =>
        have : P.funcs.toList.any Func.goes = true := List.any_eq_true.2 ⟨x, by rw [← hx]; simp, hx'⟩
        rw [h] at this
        cases this
  have ha : P.funcs.any Func.goes = false := by rw [← Array.any_toList]; exact h
  have hp : ∀ f : FuncId, P.goes f = false := fun f => by
    unfold Program.goes
    simp only [hg, ha, Bool.and_false, Bool.or_false]
    simp
  unfold Program.goesAt Program.goesFrom
  cases P.funcNamed f <;> cases s <;> simp [hp]
theorem pc_g : false = Rows.deskWordsRow.goesBy Tryz.pinned.checked.prog := (goes_none no_goes _ _).symm
end Go.Proofs.YtgcineegnihcmaaGreatDoor.deskWords
