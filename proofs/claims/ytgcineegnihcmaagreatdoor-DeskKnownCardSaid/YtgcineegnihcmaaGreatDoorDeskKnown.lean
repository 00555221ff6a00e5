/-
  The closed statement DeskKnown holds: the abstract machine AM, run by the kernel over the program's own text, answers true; what it answers the model answers. No conditions.
-/
import Derived.Test.YtgcineegnihcmaaGreatDoorRows
import Derived.Test.YtgcineegnihcmaaGreatDoorKnRun
import Derived.KernelRfl
import Derived.WalkKit
import Derived.Test.YtgcineegnihcmaaGreatDoorCards
import Derived.SevenTiedAt
import Derived.ProofKit
import Derived.OpenShut
import Derived.MakeChecks
import Derived.LaidMore
import Derived.Lay
import Derived.Stop.Joined
import Derived.Test.YtgcineegnihcmaaGreatDoorKnTie
import Derived.Test.YtgcineegnihcmaaGreatDoorKnOver
import Derived.Test.YtgcineegnihcmaaGreatDoorKnPa
import Derived.Test.YtgcineegnihcmaaGreatDoorKnPb
import Derived.Test.YtgcineegnihcmaaGreatDoorKnPc
namespace Go.Proofs.YtgcineegnihcmaaGreatDoor.deskKnown
open Go.ChangeShapes Go.WideMaps Go.WideElems Go.WideShapes Go.ChangeAt Go.RowKit Go.Am
set_option linter.unusedVariables false      -- a walk need not use every 'w<i>' (that an integer argument fits its kind)

/-- The statement: the tied card. -/
theorem proved : Rows.DeskKnownCardSaid :=
  Claim7.holds_tied_plain_at .later [] [.pinned, .data, .sentinel, .sentinel, .data, .data, .data, .data, .listed] true (true, "eee0d179ee88b1d49ca9c017cdc3103984cb633fcc20275e4e173166ae24b8a2") true
    row_holds (fun _ h => by cases h) pc_w (fun _ h => by cases h) deskKnown_row_tie rfl ⟨rfl, rfl⟩ pc_m rfl
    (fun f fn hf hfn => by
      obtain rfl : f = 4 := Option.some.inj (pc_f.symm.trans hf) |>.symm
      obtain rfl : fn = Tryz.f4 := (Option.some.inj (Tryz.func4.symm.trans hfn)).symm
      exact ⟨pc_l, fun j t ht => by
        rw [Tryz.params4] at ht
        simp at ht⟩)
    pc_g
#print axioms proved
end Go.Proofs.YtgcineegnihcmaaGreatDoor.deskKnown
