/-
  DERIVED. GIVEN WITH THE SEED: THE CARDS: each row of YtbgbjdihdihmhaaGreatDoorRows.lean that lists a variable, with what it lists TIED to the program's text (the seventh form; the later family's looks); each row that meets fmt, with fmt's text TOLD by the authors' own Lean function (tested against real Go, not proved from fmt's source: count such statements apart). THE CARD IS WHAT COUNTS. Prove the row's statement (the work); the ties are given (YtbgbjdihdihmhaaGreatDoorTie.lean); close each card by the builder's one call (the guide's Derived/Test/ToyasCard.lean, 'card_holds'). Laid BY PROGRAM, IN A SANDBOX (cutbox-door.mjs). By AI agents, Wed Nov 11 2026. No macro, syntax, notation, axiom, sorry.
-/
import Derived.Test.YtbgbjdihdihmhaaGreatDoorRows
import GoSem.ClaimSeven
namespace Go.Proofs.YtbgbjdihdihmhaaGreatDoor
namespace Rows

/-- THE TIED CARD OF 'cedillalaw31.DictKnown'. -/
def dictKnownCard : Claim7 := { stood := { row := dictKnownRow, standIns := [], harness := (true, "69a704cc2b5b183ed87e63a58543adea7432ecacc4657994f7aa78c4837ed1ad"), looks := true }, kinds := [], alts := [], laidByText := true, laidKinds := [.data, .data, .data, .sentinel, .sentinel], laidTests := true, laidLooks := .later }
def DictKnownCardSaid : Prop := Claim7.holds Tryz.pinned (.plain (OpenSpec.ofChange dictKnownSpec)) dictKnownCard

/-- THE SECOND FORM's CARD OF 'cedillalaw31.DictKnown'. -/
def dictKnownUptoCard : Claim7 := { stood := { row := dictKnownUptoRow, standIns := [], harness := (true, "69a704cc2b5b183ed87e63a58543adea7432ecacc4657994f7aa78c4837ed1ad"), looks := true }, kinds := [], alts := [], laidByText := true, laidKinds := [.data, .data, .data, .sentinel, .sentinel], laidTests := true, laidLooks := .later }
def DictKnownUptoCardSaid : Prop := Claim7.holds Tryz.pinned (.plain (OpenSpec.upto dictKnownSpec)) dictKnownUptoCard
end Rows
end Go.Proofs.YtbgbjdihdihmhaaGreatDoor
