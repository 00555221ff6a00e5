/-
  The statement DeskWords holds: the abstract machine AM, run symbolically over the program's own text, answers true; what it answers the model answers. No conditions.
-/
import Derived.Test.YtgcineegnihcmaaGreatDoorRows
import Derived.Test.YtgcineegnihcmaaGreatDoorDswA
import Derived.Test.YtgcineegnihcmaaGreatDoorKnCut0
import Derived.KernelRfl
import Derived.WalkKit
import Derived.Test.YtgcineegnihcmaaGreatDoorCards
import Derived.SevenTiedAt
import Derived.ProofKit
import Derived.OpenShut
import Derived.MakeChecks
import Derived.LaidMore
import Derived.Lay
import Derived.Stop.Joined
import Derived.Test.YtgcineegnihcmaaGreatDoorKnTie
import Derived.Test.YtgcineegnihcmaaGreatDoorKnOver
import Derived.Test.YtgcineegnihcmaaGreatDoorKnPa
import Derived.Test.YtgcineegnihcmaaGreatDoorKnPb
import Derived.Test.YtgcineegnihcmaaGreatDoorKnPc
namespace Go.Proofs.YtgcineegnihcmaaGreatDoor.deskWords
open Go.ChangeShapes Go.WideMaps Go.WideElems Go.WideShapes Go.ChangeAt Go.RowKit Go.Am
set_option linter.unusedVariables false      -- a walk need not use every 'w<i>' (that an integer argument fits its kind)

theorem pc_v : Tryz.pinned.checked.prog.wantsStandIn 9 = false := by kernel_rfl
/-- The statement: the tied card. -/
theorem proved : Rows.DeskWordsCardSaid :=
  Claim7.holds_tied_plain_at .later [] [.pinned, .data, .sentinel, .sentinel, .data, .data, .data, .data, .listed] true (true, "eee0d179ee88b1d49ca9c017cdc3103984cb633fcc20275e4e173166ae24b8a2") true
    row_holds (fun _ h => by cases h) pc_w (fun _ h => by cases h) deskWords_row_tie rfl ⟨rfl, rfl⟩ pc_m rfl
    (fun f fn hf hfn => by
      obtain rfl : f = 3 := Option.some.inj (pc_f.symm.trans hf) |>.symm
      obtain rfl : fn = Tryz.f3 := (Option.some.inj (Tryz.func3.symm.trans hfn)).symm
      exact ⟨pc_l, fun j t ht => by
        rw [Tryz.params3] at ht
        have hm := Array.mem_of_getElem? ht
        simp only [List.mem_toArray, List.mem_cons, List.not_mem_nil, or_false, or_self] at hm
        subst hm
        exact pc_v⟩)
    pc_g
#print axioms proved
end Go.Proofs.YtgcineegnihcmaaGreatDoor.deskWords
