/- The abstract machine, the walk of the law and its plain laws, made small by a program; part 11: no conditions but those in each theorem. -/
import Derived.Test.YtjoceidiioppiaaGreatDoorRows
import Derived.ProofKit
import Derived.OpenShut
import Derived.LaidMore
import Derived.Stop.Joined
set_option maxHeartbeats 16000000
set_option maxRecDepth 100000
set_option linter.unusedSimpArgs false
set_option linter.unusedVariables false
noncomputable section
open Go.Proofs.Tryz renaming f4→qbC
namespace Go.Proofs.YtjoceidiioppiaaGreatDoor.storeLasts
open Go.RowKit
theorem Rx:joinedFacts Tryz.pinned.checked.prog 4 qbC Rows.storeLastsSpec Rows.storeLastsRow=true:=by kernel_rfl
end Go.Proofs.YtjoceidiioppiaaGreatDoor.storeLasts
end
