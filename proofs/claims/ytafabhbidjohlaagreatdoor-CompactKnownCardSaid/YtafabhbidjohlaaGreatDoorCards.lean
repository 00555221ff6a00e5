/-
  DERIVED. GIVEN WITH THE SEED: THE CARDS: each row of YtafabhbidjohlaaGreatDoorRows.lean that lists a variable, with what it lists TIED to the program's text (the seventh form; the later family's looks); each row that meets fmt, with fmt's text TOLD by the authors' own Lean function (tested against real Go, not proved from fmt's source: count such statements apart). THE CARD IS WHAT COUNTS. Prove the row's statement (the work); the ties are given (YtafabhbidjohlaaGreatDoorTie.lean); close each card by the builder's one call (the guide's Derived/Test/ToyasCard.lean, 'card_holds'). Laid BY PROGRAM, IN A SANDBOX (cutbox-door.mjs). By AI agents, Wed Nov 11 2026. No macro, syntax, notation, axiom, sorry.
-/
import Derived.Test.YtafabhbidjohlaaGreatDoorRows
import GoSem.ClaimSeven
namespace Go.Proofs.YtafabhbidjohlaaGreatDoor
namespace Rows

/-- THE TIED CARD OF 'cedillalaw30.CompactKnown'. -/
def compactKnownCard : Claim7 := { stood := { row := compactKnownRow, standIns := [], harness := (true, "350d3ad6215825ef29da811dd6a806b7cc3f03ffb0c8b2190fdbed23f6ca038f"), looks := true }, kinds := [], alts := [], laidByText := true, laidKinds := [.data, .data, .data], laidTests := true, laidLooks := .later }
def CompactKnownCardSaid : Prop := Claim7.holds Tryz.pinned (.plain (OpenSpec.ofChange compactKnownSpec)) compactKnownCard

/-- THE SECOND FORM's CARD OF 'cedillalaw30.CompactKnown'. -/
def compactKnownUptoCard : Claim7 := { stood := { row := compactKnownUptoRow, standIns := [], harness := (true, "350d3ad6215825ef29da811dd6a806b7cc3f03ffb0c8b2190fdbed23f6ca038f"), looks := true }, kinds := [], alts := [], laidByText := true, laidKinds := [.data, .data, .data], laidTests := true, laidLooks := .later }
def CompactKnownUptoCardSaid : Prop := Claim7.holds Tryz.pinned (.plain (OpenSpec.upto compactKnownSpec)) compactKnownUptoCard
end Rows
end Go.Proofs.YtafabhbidjohlaaGreatDoor
