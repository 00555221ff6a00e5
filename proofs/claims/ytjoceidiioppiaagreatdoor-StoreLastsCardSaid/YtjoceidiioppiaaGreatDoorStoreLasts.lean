/- The statement holds, for every input: no conditions but those in each theorem. -/
import Derived.Test.YtjoceidiioppiaaGreatDoorQ10
import Derived.Test.YtjoceidiioppiaaGreatDoorQ11
import Derived.Test.YtjoceidiioppiaaGreatDoorCards
import Derived.Test.YtjoceidiioppiaaGreatDoorTie
import Derived.SevenTiedAt
import Derived.ProofKit
import Derived.OpenShut
import Derived.LaidMore
import Derived.Stop.Joined
set_option maxHeartbeats 16000000
set_option maxRecDepth 100000
set_option linter.unusedSimpArgs false
set_option linter.unusedVariables false
noncomputable section
open List renaming mem_cons→qaK,not_mem_nil→qbb
open Go.Proofs.Tryz renaming prog→qba,f4→qbC,func4→qeJ
open Option.some renaming inj→qbo
namespace Go.Proofs.YtjoceidiioppiaaGreatDoor.storeLasts
open Go.ChangeShapes Go.WideMaps Go.WideElems Go.WideShapes Go.ChangeAt Go.RowKit Go.Am
theorem over (hk:b9 sto.cg.P 19 (aK sto.ud)):Rows.storeLastsRow.holds Tryz.pinned (OpenSpec.ofChange Rows.storeLastsSpec):=
 OpenClaim.holds_of_wide 4 qbC rfl rfl rfl rfl rfl rfl rfl ⟨rfl,rfl,rfl,rfl,rfl⟩ rfl rfl rfl rfl rfl (by kernel_rfl) qeJ Rx
  (of_decide_eq_true (by kernel_rfl)) (by unfold Func.isWrapper;first|(rw [if_pos (by decide+kernel)];kernel_rfl)|(rw [if_neg (by decide+kernel)];exact⟨rfl,rfl⟩))
  (fun os started H enc _=>lifted hk os started H enc)
theorem LJ:Rows.StoreLastsSaid:=over sto.HF
theorem Yr:Tryz.pinned.checked.prog.wantsStandIn 30=false:=by kernel_rfl
theorem ZA:Tryz.pinned.checked.prog.wantsStandIn 58=false:=by kernel_rfl
theorem proved:Rows.StoreLastsCardSaid:=
 Claim7.holds_tied_plain_at .later [] [.data,.data,.data] true (true,"01c433014ea2f6c80bf8058f484bc4e06424576a14b1cd723f324020a68ca4b2") true
  LJ (fun _ h=>by cases h) (by kernel_rfl) (fun _ h=>by cases h) storeLasts_row_tie rfl ⟨rfl,rfl⟩ (by kernel_rfl) rfl
  (fun f fn hf hfn=>by
   obtain rfl:f=4:=qbo ((show qba.funcNamed "cedilla/cedillalaw27.StoreLasts" =some 4 by kernel_rfl).symm.trans hf)|>.symm;obtain rfl:fn=qbC:=(qbo (qeJ.symm.trans hfn)).symm;exact⟨by kernel_rfl,fun j t ht=>by
    rw [Tryz.params4] at ht;have hm:=Array.mem_of_getElem? ht;simp only [List.mem_toArray,qaK,qbb,or_false] at hm;rcases hm with rfl|rfl|rfl
    ·exact Yr
    ·exact Yr
    ·exact ZA⟩)
  (by kernel_rfl)
#print axioms proved
end Go.Proofs.YtjoceidiioppiaaGreatDoor.storeLasts
end
