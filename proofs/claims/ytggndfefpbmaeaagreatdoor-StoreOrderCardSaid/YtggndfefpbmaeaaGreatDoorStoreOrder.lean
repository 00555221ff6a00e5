/- The statement holds, for every input: no conditions but those in each theorem. -/
import Derived.Test.YtggndfefpbmaeaaGreatDoorQ10
import Derived.Test.YtggndfefpbmaeaaGreatDoorCards
import Derived.Test.YtggndfefpbmaeaaGreatDoorTie
import Derived.SevenTiedAt
import Derived.ProofKit
import Derived.OpenShut
import Derived.LaidMore
import Derived.Stop.Joined
set_option maxHeartbeats 16000000
set_option maxRecDepth 100000
set_option linter.unusedSimpArgs false
set_option linter.unusedVariables false
noncomputable section
open List renaming mem_cons→ZC,not_mem_nil→Z0
open Go.Proofs.Tryz renaming prog→Z6,f4→qag,func4→qdD
open Option.some renaming inj→Z_
namespace Go.Proofs.YtggndfefpbmaeaaGreatDoor.storeOrder
open Go.ChangeShapes Go.WideMaps Go.WideElems Go.WideShapes Go.ChangeAt Go.RowKit Go.Am
theorem Le:Rows.StoreOrderSaid:=over sto.GP
theorem Yk:Tryz.pinned.checked.prog.wantsStandIn 29=false:=by kernel_rfl
theorem YR:Tryz.pinned.checked.prog.wantsStandIn 5=false:=by kernel_rfl
theorem proved:Rows.StoreOrderCardSaid:=
 Claim7.holds_tied_plain_at .later [] [.data,.data,.data] true (true,"da41ae1cb9c859605c49b23ca3a0f58bfd0c092a4d8b212d4e5cd6fc7f7ac229") true
  Le (fun _ h=>by cases h) (by kernel_rfl) (fun _ h=>by cases h) storeOrder_row_tie rfl ⟨rfl,rfl⟩ (by kernel_rfl) rfl
  (fun f fn hf hfn=>by
   obtain rfl:f=4:=Z_ ((show Z6.funcNamed "cedilla/cedillalaw27.StoreOrder" =some 4 by kernel_rfl).symm.trans hf)|>.symm;obtain rfl:fn=qag:=(Z_ (qdD.symm.trans hfn)).symm;exact⟨by kernel_rfl,fun j t ht=>by
    rw [Tryz.params4] at ht;have hm:=Array.mem_of_getElem? ht;simp only [List.mem_toArray,ZC,Z0,or_false] at hm;rcases hm with rfl|rfl|rfl
    ·exact Yk
    ·exact YR
    ·exact YR⟩)
  (by kernel_rfl)
#print axioms proved
end Go.Proofs.YtggndfefpbmaeaaGreatDoor.storeOrder
end
