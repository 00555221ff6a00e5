/-
  The closed statement DictKnown holds: the abstract machine AM, run by the kernel over the program's own text, answers true; what it answers the model answers. No conditions.
-/
import Derived.Test.YtbgbjdihdihmhaaGreatDoorRows
import Derived.Test.YtbgbjdihdihmhaaGreatDoorKnRun
import Derived.KernelRfl
import Derived.WalkKit
import Derived.Test.YtbgbjdihdihmhaaGreatDoorCards
import Derived.SevenTiedAt
import Derived.ProofKit
import Derived.OpenShut
import Derived.MakeChecks
import Derived.LaidMore
import Derived.Stop.Joined
import Derived.Test.YtbgbjdihdihmhaaGreatDoorKnTie
import Derived.Test.YtbgbjdihdihmhaaGreatDoorKnOver
import Derived.Test.YtbgbjdihdihmhaaGreatDoorKnPa
import Derived.Test.YtbgbjdihdihmhaaGreatDoorKnPb
import Derived.Test.YtbgbjdihdihmhaaGreatDoorKnPc
namespace Go.Proofs.YtbgbjdihdihmhaaGreatDoor.dictKnown
open Go.ChangeShapes Go.WideMaps Go.WideElems Go.WideShapes Go.ChangeAt Go.RowKit Go.Am
set_option linter.unusedVariables false      -- a walk need not use every 'w<i>' (that an integer argument fits its kind)

/-- The statement: the tied card. -/
theorem proved : Rows.DictKnownCardSaid :=
  Claim7.holds_tied_plain_at .later [] [.data, .data, .data, .sentinel, .sentinel] true (true, "69a704cc2b5b183ed87e63a58543adea7432ecacc4657994f7aa78c4837ed1ad") true
    row_holds (fun _ h => by cases h) pc_w (fun _ h => by cases h) dictKnown_row_tie rfl ⟨rfl, rfl⟩ pc_m rfl
    (fun f fn hf hfn => by
      obtain rfl : f = 3 := Option.some.inj (pc_f.symm.trans hf) |>.symm
      obtain rfl : fn = Tryz.f3 := (Option.some.inj (Tryz.func3.symm.trans hfn)).symm
      exact ⟨pc_l, fun j t ht => by
        rw [Tryz.params3] at ht
        simp at ht⟩)
    pc_g
#print axioms proved
end Go.Proofs.YtbgbjdihdihmhaaGreatDoor.dictKnown
