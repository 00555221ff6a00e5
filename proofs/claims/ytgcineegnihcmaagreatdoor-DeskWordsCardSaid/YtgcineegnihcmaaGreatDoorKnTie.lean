/-
  DeskWords: the tie of its variables, in pieces. The whole. No conditions.
-/
import Derived.Test.YtgcineegnihcmaaGreatDoorKnT1
import Derived.Test.YtgcineegnihcmaaGreatDoorKnT2
import Derived.Test.YtgcineegnihcmaaGreatDoorKnT3
import Derived.Test.YtgcineegnihcmaaGreatDoorKnT4
import Derived.Test.YtgcineegnihcmaaGreatDoorKnT5
import Derived.Test.YtgcineegnihcmaaGreatDoorKnT6
import Derived.Test.YtgcineegnihcmaaGreatDoorKnT7
import Derived.Test.YtgcineegnihcmaaGreatDoorKnT8
import Derived.Test.YtgcineegnihcmaaGreatDoorKnT9
namespace Go.Proofs.YtgcineegnihcmaaGreatDoor
open Go
set_option maxRecDepth 100000
theorem tieAll : Tryz.prog.laidByTextLater tieL [.data, .sentinel, .sentinel, .data, .data, .data, .data, .listed] true :=
  Program.laidByTextLater_by_run 400 8 tw tw2 tr tk tg tn td t1 (fun os tape => two_of (t2a os tape) tz (t2b os tape)) tp
/-- The row's tie. -/
theorem deskWords_row_tie : Rows.deskWordsRow.laidByTextAt .later Tryz.pinned [.pinned, .data, .sentinel, .sentinel, .data, .data, .data, .data, .listed] true :=
  OpenClaim.laidByTextAt_pinned rfl rfl tieAll rfl rfl rfl rfl (fun y hy _e => by
    simp only [Rows.deskWordsRow, List.zip_cons_cons, List.zip_nil_right, List.mem_cons, List.mem_nil_iff, or_false] at hy
    rcases hy with rfl | rfl | rfl | rfl | rfl | rfl | rfl | rfl | rfl
    · exact ⟨pin_laid_unicode_utf8_first, by kernel_rfl⟩
    · cases _e
    · cases _e
    · cases _e
    · cases _e
    · cases _e
    · cases _e
    · cases _e
    · cases _e) fits1
end Go.Proofs.YtgcineegnihcmaaGreatDoor
