/-
  DeskKnown: the tie of its variables, in pieces. Some of the facts. No conditions.
-/
import Derived.Test.YtgcineegnihcmaaGreatDoorKnT0
namespace Go.Proofs.YtgcineegnihcmaaGreatDoor
open Go
theorem tw2 : Tryz.prog.worded (varsWordLater !true) = false := by kernel_rfl
theorem tz : ndB 0 (MemPlace.row ⟨6, 0, none⟩ 32 ++ [] ++ (MemPlace.row ⟨2, 0, none⟩ 1 ++ (MemPlace.row ⟨17, 0, none⟩ 1) ++ (MemPlace.row ⟨3, 0, none⟩ 1 ++ (MemPlace.row ⟨16, 0, none⟩ 1) ++ (MemPlace.row ⟨1, 0, none⟩ 20 ++ [] ++ (MemPlace.row ⟨8, 0, none⟩ 32 ++ [] ++ (MemPlace.row ⟨9, 0, none⟩ 64 ++ [] ++ (MemPlace.row ⟨4, 0, none⟩ 256 ++ [] ++ (MemPlace.row ⟨7, 0, none⟩ 1 ++ (MemPlace.row ⟨19, 0, none⟩ 3 ++ MemPlace.row ⟨18, 0, none⟩ 21) ++ (([] : List MemPlace)))))))))) = true := by kernel_rfl
end Go.Proofs.YtgcineegnihcmaaGreatDoor
