/-
  DERIVED. GIVEN WITH THE SEED: THE CARDS: each row of YtjoceidiioppiaaGreatDoorRows.lean that lists a variable, with what it lists TIED to the program's text (the seventh form; the later family's looks); each row that meets fmt, with fmt's text TOLD by the authors' own Lean function (tested against real Go, not proved from fmt's source: count such statements apart). THE CARD IS WHAT COUNTS. Prove the row's statement (the work); the ties are given (YtjoceidiioppiaaGreatDoorTie.lean); close each card by the builder's one call (the guide's Derived/Test/ToyasCard.lean, 'card_holds'). Laid BY PROGRAM, IN A SANDBOX (cutbox-door.mjs). By AI agents, Wed Nov 11 2026. No macro, syntax, notation, axiom, sorry.
-/
import Derived.Test.YtjoceidiioppiaaGreatDoorRows
import GoSem.ClaimSeven
namespace Go.Proofs.YtjoceidiioppiaaGreatDoor
namespace Rows

/-- THE TIED CARD OF 'cedillalaw27.StoreWrites'. -/
def storeWritesCard : Claim7 := { stood := { row := storeWritesRow, standIns := [], harness := (true, "01c433014ea2f6c80bf8058f484bc4e06424576a14b1cd723f324020a68ca4b2"), looks := true }, kinds := [], alts := [], laidByText := true, laidKinds := [.data, .data, .data], laidTests := true, laidLooks := .later }
def StoreWritesCardSaid : Prop := Claim7.holds Tryz.pinned (.plain (OpenSpec.ofChange storeWritesSpec)) storeWritesCard

/-- THE TIED CARD OF 'cedillalaw27.StoreLasts'. -/
def storeLastsCard : Claim7 := { stood := { row := storeLastsRow, standIns := [], harness := (true, "01c433014ea2f6c80bf8058f484bc4e06424576a14b1cd723f324020a68ca4b2"), looks := true }, kinds := [], alts := [], laidByText := true, laidKinds := [.data, .data, .data], laidTests := true, laidLooks := .later }
def StoreLastsCardSaid : Prop := Claim7.holds Tryz.pinned (.plain (OpenSpec.ofChange storeLastsSpec)) storeLastsCard

/-- THE SECOND FORM's CARD OF 'cedillalaw27.StoreWrites'. -/
def storeWritesUptoCard : Claim7 := { stood := { row := storeWritesUptoRow, standIns := [], harness := (true, "01c433014ea2f6c80bf8058f484bc4e06424576a14b1cd723f324020a68ca4b2"), looks := true }, kinds := [], alts := [], laidByText := true, laidKinds := [.data, .data, .data], laidTests := true, laidLooks := .later }
def StoreWritesUptoCardSaid : Prop := Claim7.holds Tryz.pinned (.plain (OpenSpec.upto storeWritesSpec)) storeWritesUptoCard

/-- THE SECOND FORM's CARD OF 'cedillalaw27.StoreLasts'. -/
def storeLastsUptoCard : Claim7 := { stood := { row := storeLastsUptoRow, standIns := [], harness := (true, "01c433014ea2f6c80bf8058f484bc4e06424576a14b1cd723f324020a68ca4b2"), looks := true }, kinds := [], alts := [], laidByText := true, laidKinds := [.data, .data, .data], laidTests := true, laidLooks := .later }
def StoreLastsUptoCardSaid : Prop := Claim7.holds Tryz.pinned (.plain (OpenSpec.upto storeLastsSpec)) storeLastsUptoCard
end Rows
end Go.Proofs.YtjoceidiioppiaaGreatDoor
