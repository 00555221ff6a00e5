/- The abstract machine, the walk of the law and its plain laws, made small by a program; part 12: no conditions but those in each theorem. -/
import Derived.Test.YtjoceidiioppiaaGreatDoorRows
import Derived.ProofKit
import Derived.OpenShut
import Derived.LaidMore
import Derived.Stop.Joined
set_option maxHeartbeats 16000000
set_option maxRecDepth 100000
set_option linter.unusedSimpArgs false
set_option linter.unusedVariables false
set_option linter.defProp false
noncomputable section
open Go.Proofs.Tryz renaming f3→gM
open Bool renaming true→ae
namespace Go.Proofs.YtjoceidiioppiaaGreatDoor.storeWrites
open Go.RowKit
def X8:joinedFacts Tryz.pinned.checked.prog 3 gM Rows.storeWritesSpec Rows.storeWritesRow=ae:=by kernel_rfl
end Go.Proofs.YtjoceidiioppiaaGreatDoor.storeWrites
end
