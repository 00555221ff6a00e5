/-
  The closed statement CrashKnown holds: the abstract machine AM, run by the kernel over the program's own text, answers true; what it answers the model answers. No conditions.
-/
import Derived.Test.YtjmdfeaghnoehaaGreatDoorRows
import Derived.Test.YtjmdfeaghnoehaaGreatDoorKnRun
import Derived.KernelRfl
import Derived.WalkKit
import Derived.Test.YtjmdfeaghnoehaaGreatDoorCards
import Derived.SevenTiedAt
import Derived.ProofKit
import Derived.OpenShut
import Derived.MakeChecks
import Derived.LaidMore
import Derived.Stop.Joined
import Derived.Test.YtjmdfeaghnoehaaGreatDoorKnTie
import Derived.Test.YtjmdfeaghnoehaaGreatDoorKnOver
import Derived.Test.YtjmdfeaghnoehaaGreatDoorKnPa
import Derived.Test.YtjmdfeaghnoehaaGreatDoorKnPb
import Derived.Test.YtjmdfeaghnoehaaGreatDoorKnPc
namespace Go.Proofs.YtjmdfeaghnoehaaGreatDoor.crashKnown
open Go.ChangeShapes Go.WideMaps Go.WideElems Go.WideShapes Go.ChangeAt Go.RowKit Go.Am
set_option linter.unusedVariables false      -- a walk need not use every 'w<i>' (that an integer argument fits its kind)

/-- The statement: the tied card. -/
theorem proved : Rows.CrashKnownCardSaid :=
  Claim7.holds_tied_plain_at .later [] [.data, .data, .data, .sentinel, .sentinel] true (true, "5606f08b01c3226f9c4c654d50120028496671cf7aeb1da255f94e261e26319b") true
    row_holds (fun _ h => by cases h) pc_w (fun _ h => by cases h) crashKnown_row_tie rfl ⟨rfl, rfl⟩ pc_m rfl
    (fun f fn hf hfn => by
      obtain rfl : f = 3 := Option.some.inj (pc_f.symm.trans hf) |>.symm
      obtain rfl : fn = Tryz.f3 := (Option.some.inj (Tryz.func3.symm.trans hfn)).symm
      exact ⟨pc_l, fun j t ht => by
        rw [Tryz.params3] at ht
        simp at ht⟩)
    pc_g
#print axioms proved
end Go.Proofs.YtjmdfeaghnoehaaGreatDoor.crashKnown
