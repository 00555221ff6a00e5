/-
  DeskKnown: the tie of its variables, in pieces. The list. No conditions.
-/
import Derived.Test.YtgcineegnihcmaaGreatDoorRows
import Derived.LaidByTextLater
import Derived.SevenTiedAt
import Derived.KernelRfl
namespace Go.Proofs.YtgcineegnihcmaaGreatDoor
open Go
/-- The variables, and what they hold. -/
def tieL : List (String × DataW Unit) := [("unicode/utf8.acceptRanges", Rows.laid_unicode_utf8_acceptRanges), ("strconv.ErrSyntax", Rows.laid_strconv_ErrSyntax), ("strconv.ErrRange", Rows.laid_strconv_ErrRange), ("internal/strconv.uint64pow10", Rows.laid_internal_strconv_uint64pow10), ("math/bits.deBruijn32tab", Rows.laid_math_bits_deBruijn32tab), ("math/bits.deBruijn64tab", Rows.laid_math_bits_deBruijn64tab), ("strings.asciiSpace", Rows.laid_strings_asciiSpace), ("unicode.White_Space", Rows.laid_unicode_White_Space)]
/-- A place's number; no place twice: told by bits. -/
def pcode : MemPlace → Nat
  | .cell b off => Nat.add (Nat.mul b 1024) off
  | .map _ => 0
def ndB : Nat → List MemPlace → Bool
  | _, [] => true
  | acc, p :: ps => bif Nat.beq (Nat.land 1 (Nat.shiftRight acc (pcode p))) 0 then ndB (Nat.lor acc (Nat.pow 2 (pcode p))) ps else false
theorem ndB_nodup : ∀ (ps : List MemPlace) (acc : Nat), ndB acc ps = true → ps.Nodup ∧ ∀ p ∈ ps, acc.testBit (pcode p) = false
  | [], _, _ => ⟨List.nodup_nil, fun _ h => by cases h⟩
  | p :: ps, acc, h => by
    unfold ndB at h
    cases hb : Nat.beq (Nat.land 1 (Nat.shiftRight acc (pcode p))) 0 with
    | false => rw [hb] at h; cases h
    | true =>
      rw [hb, cond_true] at h
      have h0 : acc.testBit (pcode p) = false := by
        have := Nat.eq_of_beq_eq_true hb
        unfold Nat.testBit
        show (Nat.land 1 (Nat.shiftRight acc (pcode p)) != 0) = false
        rw [this]; rfl
      obtain ⟨h1, h2⟩ := ndB_nodup ps _ h
      have h3 : ∀ q ∈ ps, acc.testBit (pcode q) = false ∧ pcode q ≠ pcode p := by
        intro q hq
        have := h2 q hq
        change (acc ||| 2 ^ pcode p).testBit (pcode q) = false at this
        rw [Nat.testBit_or, Nat.testBit_two_pow, Bool.or_eq_false_iff] at this
        exact ⟨this.1, fun e => by rw [e] at this; simp at this⟩
      refine ⟨List.nodup_cons.2 ⟨fun hp => (h3 p hp).2 rfl, h1⟩, fun q hq => ?_⟩
      rcases List.mem_cons.1 hq with rfl | hq
      · exact h0
      · exact (h3 q hq).1
theorem two_of {α : Type} {o : Option (α × List MemPlace)} {r : α × List MemPlace → Bool} {L : List MemPlace} (h1 : o.map (·.2) = some L) (hz : ndB 0 L = true) (h2 : o.map r = some true) : o.map (fun x => decide x.2.Nodup && r x) = some true := by
  cases o with
  | none => cases h1
  | some x =>
    simp only [Option.map_some, Option.some.injEq] at h1 h2 ⊢
    rw [decide_eq_true (ndB_nodup x.2 0 (h1 ▸ hz)).1, h2]; rfl
end Go.Proofs.YtgcineegnihcmaaGreatDoor
