/- The statement holds, for every input: no conditions but those in each theorem. -/
import Derived.Test.YtdobfpkceacneaaGreatDoorQ10
import Derived.Test.YtdobfpkceacneaaGreatDoorQ11
import Derived.Test.YtdobfpkceacneaaGreatDoorCards
import Derived.Test.YtdobfpkceacneaaGreatDoorTie
import Derived.SevenTiedAt
import Derived.ProofKit
import Derived.OpenShut
import Derived.LaidMore
import Derived.Stop.Joined
set_option maxHeartbeats 16000000
set_option maxRecDepth 100000
set_option linter.unusedSimpArgs false
set_option linter.unusedVariables false
set_option linter.defProp false
noncomputable section
open List renaming mem_cons→cC,not_mem_nil→en
open Option.some renaming inj→je
open Go.Proofs.Tryz renaming f3→hU,func3→BX,prog→dq
open Bool renaming false→af
namespace Go.Proofs.YtdobfpkceacneaaGreatDoor.compactGone
open Go.ChangeShapes Go.WideMaps Go.WideElems Go.WideShapes Go.ChangeAt Go.RowKit Go.Am
def over(hk:fP sto.bc.P 4 (dV sto.Bn)):Rows.compactGoneRow.holds Tryz.pinned (OpenSpec.ofChange Rows.compactGoneSpec):=
 OpenClaim.holds_of_wide 3 hU rfl rfl rfl rfl rfl rfl rfl ⟨rfl,rfl,rfl,rfl,rfl⟩ rfl rfl rfl rfl rfl (by kernel_rfl) BX Yj
  (of_decide_eq_true (by kernel_rfl)) (by unfold Func.isWrapper;first|(rw[aC (by decide+kernel)];kernel_rfl)|(rw[aq (by decide+kernel)];exact⟨rfl,rfl⟩))
  (λ os started H enc _=>lifted hk os started H enc)
def qdZ:Rows.CompactGoneSaid:=over sto.qan
def qdp:Tryz.pinned.checked.prog.wantsStandIn 22=af:=by kernel_rfl
def qdq:Tryz.pinned.checked.prog.wantsStandIn 23=af:=by kernel_rfl
theorem proved:Rows.CompactGoneCardSaid:=
 Claim7.holds_tied_plain_at .later [] [.data,.data,.data] true (true,"763f699ec97de03eb058ae16f80501afb0c1401789184dd6aec14d6822fa7a38") true
  qdZ (λ _ h=>by cases h) (by kernel_rfl) (λ _ h=>by cases h) compactGone_row_tie rfl ⟨rfl,rfl⟩ (by kernel_rfl) rfl
  (λ f fn hf hfn=>by
   obtain rfl:f=3:=je ((show dq.funcNamed "cedilla/cedillalaw30.CompactGone" =some 3 by kernel_rfl).symm.trans hf)|>.symm;obtain rfl:fn=hU:=(je (BX.symm.trans hfn)).symm;exact⟨by kernel_rfl,λ j t ht=>by
    rw[Tryz.params3]at ht;have hm:=Array.mem_of_getElem? ht;simp only[List.mem_toArray,cC,en,or_false]at hm;rcases hm with rfl|rfl
    .exact qdp
    .exact qdq⟩)
  (by kernel_rfl)
#print axioms proved
end Go.Proofs.YtdobfpkceacneaaGreatDoor.compactGone
end
