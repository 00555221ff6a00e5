/-
  DERIVED. GIVEN WITH THE SEED: THE CARDS: each row of YtdobfpkceacneaaGreatDoorRows.lean that lists a variable, with what it lists TIED to the program's text (the seventh form; the later family's looks); each row that meets fmt, with fmt's text TOLD by the authors' own Lean function (tested against real Go, not proved from fmt's source: count such statements apart). THE CARD IS WHAT COUNTS. Prove the row's statement (the work); the ties are given (YtdobfpkceacneaaGreatDoorTie.lean); close each card by the builder's one call (the guide's Derived/Test/ToyasCard.lean, 'card_holds'). Laid BY PROGRAM, IN A SANDBOX (cutbox-door.mjs). By AI agents, Wed Nov 11 2026. No macro, syntax, notation, axiom, sorry.
-/
import Derived.Test.YtdobfpkceacneaaGreatDoorRows
import GoSem.ClaimSeven
namespace Go.Proofs.YtdobfpkceacneaaGreatDoor
namespace Rows

/-- THE TIED CARD OF 'cedillalaw30.CompactGone'. -/
def compactGoneCard : Claim7 := { stood := { row := compactGoneRow, standIns := [], harness := (true, "763f699ec97de03eb058ae16f80501afb0c1401789184dd6aec14d6822fa7a38"), looks := true }, kinds := [], alts := [], laidByText := true, laidKinds := [.data, .data, .data], laidTests := true, laidLooks := .later }
def CompactGoneCardSaid : Prop := Claim7.holds Tryz.pinned (.plain (OpenSpec.ofChange compactGoneSpec)) compactGoneCard

/-- THE SECOND FORM's CARD OF 'cedillalaw30.CompactGone'. -/
def compactGoneUptoCard : Claim7 := { stood := { row := compactGoneUptoRow, standIns := [], harness := (true, "763f699ec97de03eb058ae16f80501afb0c1401789184dd6aec14d6822fa7a38"), looks := true }, kinds := [], alts := [], laidByText := true, laidKinds := [.data, .data, .data], laidTests := true, laidLooks := .later }
def CompactGoneUptoCardSaid : Prop := Claim7.holds Tryz.pinned (.plain (OpenSpec.upto compactGoneSpec)) compactGoneUptoCard
end Rows
end Go.Proofs.YtdobfpkceacneaaGreatDoor
