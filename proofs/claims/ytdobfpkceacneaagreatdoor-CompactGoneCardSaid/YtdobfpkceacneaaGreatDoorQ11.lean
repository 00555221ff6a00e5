/- The abstract machine, the walk of the law and its plain laws, made small by a program; part 11: no conditions but those in each theorem. -/
import Derived.Test.YtdobfpkceacneaaGreatDoorRows
import Derived.ProofKit
import Derived.OpenShut
import Derived.LaidMore
import Derived.Stop.Joined
set_option maxHeartbeats 16000000
set_option maxRecDepth 100000
set_option linter.unusedSimpArgs false
set_option linter.unusedVariables false
set_option linter.defProp false
noncomputable section
open Go.Proofs.Tryz renaming f3→hU
open Bool renaming true→aa
namespace Go.Proofs.YtdobfpkceacneaaGreatDoor.compactGone
open Go.RowKit
def Yj:joinedFacts Tryz.pinned.checked.prog 3 hU Rows.compactGoneSpec Rows.compactGoneRow=aa:=by kernel_rfl
end Go.Proofs.YtdobfpkceacneaaGreatDoor.compactGone
end
