/-
  DERIVED. GIVEN WITH THE SEED: THE CARDS: each row of YtgcineegnihcmaaGreatDoorRows.lean that lists a variable, with what it lists TIED to the program's text (the seventh form; the later family's looks); each row that meets fmt, with fmt's text TOLD by the authors' own Lean function (tested against real Go, not proved from fmt's source: count such statements apart). THE CARD IS WHAT COUNTS. Prove the row's statement (the work); the ties are given (YtgcineegnihcmaaGreatDoorTie.lean); close each card by the builder's one call (the guide's Derived/Test/ToyasCard.lean, 'card_holds'). Laid BY PROGRAM, IN A SANDBOX (cutbox-door.mjs). By AI agents, Wed Nov 11 2026. No macro, syntax, notation, axiom, sorry.
-/
import Derived.Test.YtgcineegnihcmaaGreatDoorRows
import GoSem.ClaimSeven
namespace Go.Proofs.YtgcineegnihcmaaGreatDoor
namespace Rows

/-- THE TIED CARD OF 'cedillalaw35.DeskWords'. -/
def deskWordsCard : Claim7 := { stood := { row := deskWordsRow, standIns := [], harness := (true, "eee0d179ee88b1d49ca9c017cdc3103984cb633fcc20275e4e173166ae24b8a2"), looks := true }, kinds := [], alts := [], laidByText := true, laidKinds := [.pinned, .data, .sentinel, .sentinel, .data, .data, .data, .data, .listed], laidTests := true, laidLooks := .later }
def DeskWordsCardSaid : Prop := Claim7.holds Tryz.pinned (.plain (OpenSpec.ofChange deskWordsSpec)) deskWordsCard

/-- THE TIED CARD OF 'cedillalaw35.DeskKnown'. -/
def deskKnownCard : Claim7 := { stood := { row := deskKnownRow, standIns := [], harness := (true, "eee0d179ee88b1d49ca9c017cdc3103984cb633fcc20275e4e173166ae24b8a2"), looks := true }, kinds := [], alts := [], laidByText := true, laidKinds := [.pinned, .data, .sentinel, .sentinel, .data, .data, .data, .data, .listed], laidTests := true, laidLooks := .later }
def DeskKnownCardSaid : Prop := Claim7.holds Tryz.pinned (.plain (OpenSpec.ofChange deskKnownSpec)) deskKnownCard

/-- THE SECOND FORM's CARD OF 'cedillalaw35.DeskWords'. -/
def deskWordsUptoCard : Claim7 := { stood := { row := deskWordsUptoRow, standIns := [], harness := (true, "eee0d179ee88b1d49ca9c017cdc3103984cb633fcc20275e4e173166ae24b8a2"), looks := true }, kinds := [], alts := [], laidByText := true, laidKinds := [.pinned, .data, .sentinel, .sentinel, .data, .data, .data, .data, .listed], laidTests := true, laidLooks := .later }
def DeskWordsUptoCardSaid : Prop := Claim7.holds Tryz.pinned (.plain (OpenSpec.upto deskWordsSpec)) deskWordsUptoCard

/-- THE SECOND FORM's CARD OF 'cedillalaw35.DeskKnown'. -/
def deskKnownUptoCard : Claim7 := { stood := { row := deskKnownUptoRow, standIns := [], harness := (true, "eee0d179ee88b1d49ca9c017cdc3103984cb633fcc20275e4e173166ae24b8a2"), looks := true }, kinds := [], alts := [], laidByText := true, laidKinds := [.pinned, .data, .sentinel, .sentinel, .data, .data, .data, .data, .listed], laidTests := true, laidLooks := .later }
def DeskKnownUptoCardSaid : Prop := Claim7.holds Tryz.pinned (.plain (OpenSpec.upto deskKnownSpec)) deskKnownUptoCard
end Rows
end Go.Proofs.YtgcineegnihcmaaGreatDoor
