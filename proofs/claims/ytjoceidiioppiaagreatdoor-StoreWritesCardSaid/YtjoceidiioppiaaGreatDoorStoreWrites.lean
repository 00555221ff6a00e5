/- The statement holds, for every input: no conditions but those in each theorem. -/
import Derived.Test.YtjoceidiioppiaaGreatDoorQ11
import Derived.Test.YtjoceidiioppiaaGreatDoorQ12
import Derived.Test.YtjoceidiioppiaaGreatDoorCards
import Derived.Test.YtjoceidiioppiaaGreatDoorTie
import Derived.SevenTiedAt
import Derived.ProofKit
import Derived.OpenShut
import Derived.LaidMore
import Derived.Stop.Joined
set_option maxHeartbeats 16000000
set_option maxRecDepth 100000
set_option linter.unusedSimpArgs false
set_option linter.unusedVariables false
set_option linter.defProp false
noncomputable section
open List renaming mem_cons→cG,not_mem_nil→eC
open Option.some renaming inj→iR
open Go.Proofs.Tryz renaming f3→gM,func3→BU,prog→dw
open Bool renaming false→ag
namespace Go.Proofs.YtjoceidiioppiaaGreatDoor.storeWrites
open Go.ChangeShapes Go.WideMaps Go.WideElems Go.WideShapes Go.ChangeAt Go.RowKit Go.Am
def over(hk:eG sto.aT.P 19 (cH sto.Bk)):Rows.storeWritesRow.holds Tryz.pinned (OpenSpec.ofChange Rows.storeWritesSpec):=
 OpenClaim.holds_of_wide 3 gM rfl rfl rfl rfl rfl rfl rfl ⟨rfl,rfl,rfl,rfl,rfl⟩ rfl rfl rfl rfl rfl (by kernel_rfl) BU X8
  (of_decide_eq_true (by kernel_rfl)) (by unfold Func.isWrapper;first|(rw[aA (by decide+kernel)];kernel_rfl)|(rw[ax (by decide+kernel)];exact⟨rfl,rfl⟩))
  (λ os started H enc _=>lifted hk os started H enc)
def qdc:Rows.StoreWritesSaid:=over sto.ZX
def qcH:Tryz.pinned.checked.prog.wantsStandIn 22=ag:=by kernel_rfl
def qcI:Tryz.pinned.checked.prog.wantsStandIn 23=ag:=by kernel_rfl
theorem proved:Rows.StoreWritesCardSaid:=
 Claim7.holds_tied_plain_at .later [] [.data,.data,.data] true (true,"01c433014ea2f6c80bf8058f484bc4e06424576a14b1cd723f324020a68ca4b2") true
  qdc (λ _ h=>by cases h) (by kernel_rfl) (λ _ h=>by cases h) storeWrites_row_tie rfl ⟨rfl,rfl⟩ (by kernel_rfl) rfl
  (λ f fn hf hfn=>by
   obtain rfl:f=3:=iR ((show dw.funcNamed "cedilla/cedillalaw27.StoreWrites" =some 3 by kernel_rfl).symm.trans hf)|>.symm;obtain rfl:fn=gM:=(iR (BU.symm.trans hfn)).symm;exact⟨by kernel_rfl,λ j t ht=>by
    rw[Tryz.params3]at ht;have hm:=Array.mem_of_getElem? ht;simp only[List.mem_toArray,cG,eC,or_false]at hm;rcases hm with rfl|rfl
    .exact qcH
    .exact qcI⟩)
  (by kernel_rfl)
#print axioms proved
end Go.Proofs.YtjoceidiioppiaaGreatDoor.storeWrites
end
