/-
  The closed statement ReviveKnown holds: the abstract machine AM, run by the kernel over the program's own text, answers true; what it answers the model answers. No conditions.
-/
import Derived.Test.YthmhbjemgjhogaaGreatDoorRows
import Derived.Test.YthmhbjemgjhogaaGreatDoorKnEnd
import Derived.KernelRfl
import Derived.WalkKit
import Derived.Test.YthmhbjemgjhogaaGreatDoorCards
import Derived.Test.YthmhbjemgjhogaaGreatDoorTie
import Derived.SevenTiedAt
import Derived.ProofKit
import Derived.OpenShut
import Derived.MakeChecks
import Derived.LaidMore
import Derived.Stop.Joined
import Derived.Test.YthmhbjemgjhogaaGreatDoorKnOver
import Derived.Test.YthmhbjemgjhogaaGreatDoorKnPa
import Derived.Test.YthmhbjemgjhogaaGreatDoorKnPb
import Derived.Test.YthmhbjemgjhogaaGreatDoorKnPc
namespace Go.Proofs.YthmhbjemgjhogaaGreatDoor.reviveKnown
open Go.ChangeShapes Go.WideMaps Go.WideElems Go.WideShapes Go.ChangeAt Go.RowKit Go.Am
set_option linter.unusedVariables false      -- a walk need not use every 'w<i>' (that an integer argument fits its kind)

/-- The statement: the tied card. -/
theorem proved : Rows.ReviveKnownCardSaid :=
  Claim7.holds_tied_plain_at .later [] [.data, .data, .data, .sentinel, .sentinel] true (true, "f45502d7577121fa5a56d7c415c2cbfdf52ff465956eb9b57d30df0d6e66ce2d") true
    row_holds (fun _ h => by cases h) pc_w (fun _ h => by cases h) reviveKnown_row_tie rfl ⟨rfl, rfl⟩ pc_m rfl
    (fun f fn hf hfn => by
      obtain rfl : f = 3 := Option.some.inj (pc_f.symm.trans hf) |>.symm
      obtain rfl : fn = Tryz.f3 := (Option.some.inj (Tryz.func3.symm.trans hfn)).symm
      exact ⟨pc_l, fun j t ht => by
        rw [Tryz.params3] at ht
        simp at ht⟩)
    pc_g
#print axioms proved
end Go.Proofs.YthmhbjemgjhogaaGreatDoor.reviveKnown
