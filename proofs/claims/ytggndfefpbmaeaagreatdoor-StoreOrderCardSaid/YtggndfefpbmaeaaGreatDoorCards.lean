/-
  DERIVED. GIVEN WITH THE SEED: THE CARDS: each row of YtggndfefpbmaeaaGreatDoorRows.lean that lists a variable, with what it lists TIED to the program's text (the seventh form; the later family's looks); each row that meets fmt, with fmt's text TOLD by the authors' own Lean function (tested against real Go, not proved from fmt's source: count such statements apart). THE CARD IS WHAT COUNTS. Prove the row's statement (the work); the ties are given (YtggndfefpbmaeaaGreatDoorTie.lean); close each card by the builder's one call (the guide's Derived/Test/ToyasCard.lean, 'card_holds'). Laid BY PROGRAM, IN A SANDBOX (cutbox-door.mjs). By AI agents, Wed Nov 11 2026. No macro, syntax, notation, axiom, sorry.
-/
import Derived.Test.YtggndfefpbmaeaaGreatDoorRows
import GoSem.ClaimSeven
namespace Go.Proofs.YtggndfefpbmaeaaGreatDoor
namespace Rows

/-- THE TIED CARD OF 'cedillalaw27.StoreBursts'. -/
def storeBurstsCard : Claim7 := { stood := { row := storeBurstsRow, standIns := [], harness := (true, "da41ae1cb9c859605c49b23ca3a0f58bfd0c092a4d8b212d4e5cd6fc7f7ac229"), looks := true }, kinds := [], alts := [], laidByText := true, laidKinds := [.data, .data, .data], laidTests := true, laidLooks := .later }
def StoreBurstsCardSaid : Prop := Claim7.holds Tryz.pinned (.plain (OpenSpec.ofChange storeBurstsSpec)) storeBurstsCard

/-- THE TIED CARD OF 'cedillalaw27.StoreOrder'. -/
def storeOrderCard : Claim7 := { stood := { row := storeOrderRow, standIns := [], harness := (true, "da41ae1cb9c859605c49b23ca3a0f58bfd0c092a4d8b212d4e5cd6fc7f7ac229"), looks := true }, kinds := [], alts := [], laidByText := true, laidKinds := [.data, .data, .data], laidTests := true, laidLooks := .later }
def StoreOrderCardSaid : Prop := Claim7.holds Tryz.pinned (.plain (OpenSpec.ofChange storeOrderSpec)) storeOrderCard

/-- THE SECOND FORM's CARD OF 'cedillalaw27.StoreBursts'. -/
def storeBurstsUptoCard : Claim7 := { stood := { row := storeBurstsUptoRow, standIns := [], harness := (true, "da41ae1cb9c859605c49b23ca3a0f58bfd0c092a4d8b212d4e5cd6fc7f7ac229"), looks := true }, kinds := [], alts := [], laidByText := true, laidKinds := [.data, .data, .data], laidTests := true, laidLooks := .later }
def StoreBurstsUptoCardSaid : Prop := Claim7.holds Tryz.pinned (.plain (OpenSpec.upto storeBurstsSpec)) storeBurstsUptoCard

/-- THE SECOND FORM's CARD OF 'cedillalaw27.StoreOrder'. -/
def storeOrderUptoCard : Claim7 := { stood := { row := storeOrderUptoRow, standIns := [], harness := (true, "da41ae1cb9c859605c49b23ca3a0f58bfd0c092a4d8b212d4e5cd6fc7f7ac229"), looks := true }, kinds := [], alts := [], laidByText := true, laidKinds := [.data, .data, .data], laidTests := true, laidLooks := .later }
def StoreOrderUptoCardSaid : Prop := Claim7.holds Tryz.pinned (.plain (OpenSpec.upto storeOrderSpec)) storeOrderUptoCard
end Rows
end Go.Proofs.YtggndfefpbmaeaaGreatDoor
