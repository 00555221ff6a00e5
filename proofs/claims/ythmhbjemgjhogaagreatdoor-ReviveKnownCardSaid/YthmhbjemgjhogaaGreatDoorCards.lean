/-
  DERIVED. GIVEN WITH THE SEED: THE CARDS: each row of YthmhbjemgjhogaaGreatDoorRows.lean that lists a variable, with what it lists TIED to the program's text (the seventh form; the later family's looks); each row that meets fmt, with fmt's text TOLD by the authors' own Lean function (tested against real Go, not proved from fmt's source: count such statements apart). THE CARD IS WHAT COUNTS. Prove the row's statement (the work); the ties are given (YthmhbjemgjhogaaGreatDoorTie.lean); close each card by the builder's one call (the guide's Derived/Test/ToyasCard.lean, 'card_holds'). Laid BY PROGRAM, IN A SANDBOX (cutbox-door.mjs). By AI agents, Wed Nov 11 2026. No macro, syntax, notation, axiom, sorry.
-/
import Derived.Test.YthmhbjemgjhogaaGreatDoorRows
import GoSem.ClaimSeven
namespace Go.Proofs.YthmhbjemgjhogaaGreatDoor
namespace Rows

/-- THE TIED CARD OF 'cedillalaw29.ReviveKnown'. -/
def reviveKnownCard : Claim7 := { stood := { row := reviveKnownRow, standIns := [], harness := (true, "f45502d7577121fa5a56d7c415c2cbfdf52ff465956eb9b57d30df0d6e66ce2d"), looks := true }, kinds := [], alts := [], laidByText := true, laidKinds := [.data, .data, .data, .sentinel, .sentinel], laidTests := true, laidLooks := .later }
def ReviveKnownCardSaid : Prop := Claim7.holds Tryz.pinned (.plain (OpenSpec.ofChange reviveKnownSpec)) reviveKnownCard

/-- THE SECOND FORM's CARD OF 'cedillalaw29.ReviveKnown'. -/
def reviveKnownUptoCard : Claim7 := { stood := { row := reviveKnownUptoRow, standIns := [], harness := (true, "f45502d7577121fa5a56d7c415c2cbfdf52ff465956eb9b57d30df0d6e66ce2d"), looks := true }, kinds := [], alts := [], laidByText := true, laidKinds := [.data, .data, .data, .sentinel, .sentinel], laidTests := true, laidLooks := .later }
def ReviveKnownUptoCardSaid : Prop := Claim7.holds Tryz.pinned (.plain (OpenSpec.upto reviveKnownSpec)) reviveKnownUptoCard
end Rows
end Go.Proofs.YthmhbjemgjhogaaGreatDoor
