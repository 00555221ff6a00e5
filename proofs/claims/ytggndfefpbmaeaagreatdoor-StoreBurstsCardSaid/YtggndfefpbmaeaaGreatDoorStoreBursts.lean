/- The statement holds, for every input: no conditions but those in each theorem. -/
import Derived.Test.YtggndfefpbmaeaaGreatDoorQ09
import Derived.Test.YtggndfefpbmaeaaGreatDoorCards
import Derived.Test.YtggndfefpbmaeaaGreatDoorTie
import Derived.SevenTiedAt
import Derived.ProofKit
import Derived.OpenShut
import Derived.LaidMore
import Derived.Stop.Joined
set_option maxHeartbeats 16000000
set_option maxRecDepth 100000
set_option linter.unusedSimpArgs false
set_option linter.unusedVariables false
noncomputable section
open List renaming mem_cons→Yp,not_mem_nil→YH
open Option.some renaming inj→YJ
open Go.Proofs.Tryz renaming prog→YO,f3→YW,func3→qce
namespace Go.Proofs.YtggndfefpbmaeaaGreatDoor.storeBursts
open Go.ChangeShapes Go.WideMaps Go.WideElems Go.WideShapes Go.ChangeAt Go.RowKit Go.Am
theorem J8:Rows.StoreBurstsSaid:=over sto.FG
theorem WJ:Tryz.pinned.checked.prog.wantsStandIn 29=false:=by kernel_rfl
theorem Xi:Tryz.pinned.checked.prog.wantsStandIn 30=false:=by kernel_rfl
theorem WR:Tryz.pinned.checked.prog.wantsStandIn 31=false:=by kernel_rfl
theorem proved:Rows.StoreBurstsCardSaid:=
 Claim7.holds_tied_plain_at .later [] [.data,.data,.data] true (true,"da41ae1cb9c859605c49b23ca3a0f58bfd0c092a4d8b212d4e5cd6fc7f7ac229") true
  J8 (fun _ h=>by cases h) (by kernel_rfl) (fun _ h=>by cases h) storeBursts_row_tie rfl ⟨rfl,rfl⟩ (by kernel_rfl) rfl
  (fun f fn hf hfn=>by
   obtain rfl:f=3:=YJ ((show YO.funcNamed "cedilla/cedillalaw27.StoreBursts" =some 3 by kernel_rfl).symm.trans hf)|>.symm;obtain rfl:fn=YW:=(YJ (qce.symm.trans hfn)).symm;exact⟨by kernel_rfl,fun j t ht=>by
    rw [Tryz.params3] at ht;have hm:=Array.mem_of_getElem? ht;simp only [List.mem_toArray,Yp,YH,or_false] at hm;rcases hm with rfl|rfl|rfl
    ·exact WJ
    ·exact Xi
    ·exact WR⟩)
  (by kernel_rfl)
#print axioms proved
end Go.Proofs.YtggndfefpbmaeaaGreatDoor.storeBursts
end
