/-
  The closed statement ScriptKnown holds: the abstract machine AM, run by the kernel over the program's own text, answers true; what it answers the model answers. No conditions.
-/
import Derived.Test.YtoflaiakfmofoaaGreatDoorRows
import Derived.Test.YtoflaiakfmofoaaGreatDoorKnRun
import Derived.KernelRfl
import Derived.WalkKit
import Derived.Test.YtoflaiakfmofoaaGreatDoorCards
import Derived.SevenTiedAt
import Derived.ProofKit
import Derived.OpenShut
import Derived.MakeChecks
import Derived.LaidMore
import Derived.Stop.Joined
import Derived.Test.YtoflaiakfmofoaaGreatDoorKnTie
import Derived.Test.YtoflaiakfmofoaaGreatDoorKnOver
import Derived.Test.YtoflaiakfmofoaaGreatDoorKnPa
import Derived.Test.YtoflaiakfmofoaaGreatDoorKnPb
import Derived.Test.YtoflaiakfmofoaaGreatDoorKnPc
namespace Go.Proofs.YtoflaiakfmofoaaGreatDoor.scriptKnown
open Go.ChangeShapes Go.WideMaps Go.WideElems Go.WideShapes Go.ChangeAt Go.RowKit Go.Am
set_option linter.unusedVariables false      -- a walk need not use every 'w<i>' (that an integer argument fits its kind)

/-- The statement: the tied card. -/
theorem proved : Rows.ScriptKnownCardSaid :=
  Claim7.holds_tied_plain_at .later [] [.data, .data, .data, .sentinel, .sentinel] true (true, "b075ee0f842d3ce559e4bb5d738be64c5fd55259bab9e6657b1cb19e734bc97c") true
    row_holds (fun _ h => by cases h) pc_w (fun _ h => by cases h) scriptKnown_row_tie rfl ⟨rfl, rfl⟩ pc_m rfl
    (fun f fn hf hfn => by
      obtain rfl : f = 3 := Option.some.inj (pc_f.symm.trans hf) |>.symm
      obtain rfl : fn = Tryz.f3 := (Option.some.inj (Tryz.func3.symm.trans hfn)).symm
      exact ⟨pc_l, fun j t ht => by
        rw [Tryz.params3] at ht
        simp at ht⟩)
    pc_g
#print axioms proved
end Go.Proofs.YtoflaiakfmofoaaGreatDoor.scriptKnown
