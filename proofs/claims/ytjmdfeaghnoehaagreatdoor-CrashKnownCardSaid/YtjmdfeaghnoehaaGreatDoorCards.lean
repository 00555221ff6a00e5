/-
  DERIVED. GIVEN WITH THE SEED: THE CARDS: each row of YtjmdfeaghnoehaaGreatDoorRows.lean that lists a variable, with what it lists TIED to the program's text (the seventh form; the later family's looks); each row that meets fmt, with fmt's text TOLD by the authors' own Lean function (tested against real Go, not proved from fmt's source: count such statements apart). THE CARD IS WHAT COUNTS. Prove the row's statement (the work); the ties are given (YtjmdfeaghnoehaaGreatDoorTie.lean); close each card by the builder's one call (the guide's Derived/Test/ToyasCard.lean, 'card_holds'). Laid BY PROGRAM, IN A SANDBOX (cutbox-door.mjs). By AI agents, Wed Nov 11 2026. No macro, syntax, notation, axiom, sorry.
-/
import Derived.Test.YtjmdfeaghnoehaaGreatDoorRows
import GoSem.ClaimSeven
namespace Go.Proofs.YtjmdfeaghnoehaaGreatDoor
namespace Rows

/-- THE TIED CARD OF 'cedillalaw33.CrashKnown'. -/
def crashKnownCard : Claim7 := { stood := { row := crashKnownRow, standIns := [], harness := (true, "5606f08b01c3226f9c4c654d50120028496671cf7aeb1da255f94e261e26319b"), looks := true }, kinds := [], alts := [], laidByText := true, laidKinds := [.data, .data, .data, .sentinel, .sentinel], laidTests := true, laidLooks := .later }
def CrashKnownCardSaid : Prop := Claim7.holds Tryz.pinned (.plain (OpenSpec.ofChange crashKnownSpec)) crashKnownCard

/-- THE SECOND FORM's CARD OF 'cedillalaw33.CrashKnown'. -/
def crashKnownUptoCard : Claim7 := { stood := { row := crashKnownUptoRow, standIns := [], harness := (true, "5606f08b01c3226f9c4c654d50120028496671cf7aeb1da255f94e261e26319b"), looks := true }, kinds := [], alts := [], laidByText := true, laidKinds := [.data, .data, .data, .sentinel, .sentinel], laidTests := true, laidLooks := .later }
def CrashKnownUptoCardSaid : Prop := Claim7.holds Tryz.pinned (.plain (OpenSpec.upto crashKnownSpec)) crashKnownUptoCard
end Rows
end Go.Proofs.YtjmdfeaghnoehaaGreatDoor
