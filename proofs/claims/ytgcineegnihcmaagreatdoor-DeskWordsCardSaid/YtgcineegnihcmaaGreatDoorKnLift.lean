/-
  The statement DeskWords holds: the abstract machine AM, run symbolically over the program's own text, answers true; what it answers the model answers. No conditions.
-/
import Derived.Test.YtgcineegnihcmaaGreatDoorRows
import Derived.Test.YtgcineegnihcmaaGreatDoorDswA
import Derived.Test.YtgcineegnihcmaaGreatDoorKnCut0
import Derived.KernelRfl
import Derived.WalkKit
import Derived.Test.YtgcineegnihcmaaGreatDoorCards
import Derived.SevenTiedAt
import Derived.ProofKit
import Derived.OpenShut
import Derived.ChangeMaps5
import Derived.MakeChecks
import Derived.LaidMore
import Derived.Lay
import Derived.Stop.Joined
namespace Go.Proofs.YtgcineegnihcmaaGreatDoor.deskWords
open Go.ChangeShapes Go.WideMaps Go.WideElems Go.WideShapes Go.ChangeAt Go.RowKit Go.Am
open Go.ChangeMaps (open_string shut_string)
set_option linter.unusedVariables false      -- a walk need not use every 'w<i>' (that an integer argument fits its kind)

theorem own : ownKnob Tryz.prog.godebug = none := by kernel_rfl

/-! ### The run -/

theorem walk (a0 a1 a2 : ByteArray) (w : World) (hw : ∀ k vs, gOf kn.gl0 k = some vs → GAt w k vs) : Calls Tryz.prog 3 #[.string a0, .string a1, .string a2] w fun e w' => e = .returned (.bool true) ∧ Go.Am.Leaves w w' := by
  exact dsk.law_calls a0 a1 a2 w hw

/-! ### THE ROW's STEP: WRITTEN OUT: LEAVE IT -/
/-- What the listed tables hold. -/
def laidL : List (String × DataW Unit) := [("unicode/utf8.first", Rows.laid_unicode_utf8_first), ("unicode/utf8.acceptRanges", Rows.laid_unicode_utf8_acceptRanges), ("strconv.ErrSyntax", Rows.laid_strconv_ErrSyntax), ("strconv.ErrRange", Rows.laid_strconv_ErrRange), ("internal/strconv.uint64pow10", Rows.laid_internal_strconv_uint64pow10), ("math/bits.deBruijn32tab", Rows.laid_math_bits_deBruijn32tab), ("math/bits.deBruijn64tab", Rows.laid_math_bits_deBruijn64tab), ("strings.asciiSpace", Rows.laid_strings_asciiSpace), ("unicode.White_Space", Rows.laid_unicode_White_Space)]
set_option maxRecDepth 100000 in
theorem lay_f (os : Os) : (World.holding Tryz.prog os ⟨#[], #[], []⟩).layFits Tryz.prog laidL [] = true := by kernel_rfl
set_option maxRecDepth 100000 in
theorem lay_i (os : Os) : (World.holding Tryz.prog os ⟨#[], #[], []⟩).layIfaces Tryz.prog laidL (World.laidAll Tryz.prog os laidL) = true := by kernel_rfl
/-- The type of an array's elements. -/
def elOf (d : Option TypeDesc) : TypeId :=
  match d with
  | some (.array _ e) => e
  | _ => 0
/-- The methods of an interface type. -/
def ifcOf (d : Option TypeDesc) : Array (String × TypeId) :=
  match d with
  | some (.interface ms) => ms
  | _ => #[]
set_option maxRecDepth 100000 in
theorem gls {W : World} (h : laidMetH Tryz.prog laidL W) : ∀ k vs, gOf kn.gl0 k = some vs → GAt W k vs := by
  rw [Go.MakeChecks.laidMetH_plain _ _ _ (by kernel_rfl)] at h
  intro k vs hk
  have hm := gOf_mem hk
  rcases List.mem_cons.1 hm with e | hm
  · cases e; exact laid_table (kd := .u64) (zs := [1, 10, 100, 1000, 10000, 100000, 1000000, 10000000, 100000000, 1000000000, 10000000000, 100000000000, 1000000000000, 10000000000000, 100000000000000, 1000000000000000, 10000000000000000, 100000000000000000, 1000000000000000000, 10000000000000000000]) h (show ("internal/strconv.uint64pow10", Rows.laid_internal_strconv_uint64pow10) ∈ laidL by simp [laidL]) (t := ((Tryz.prog.globals[1]?).map (·.type)).getD 0) (e := elOf (Tryz.prog.underlying (((Tryz.prog.globals[1]?).map (·.type)).getD 0))) (by kernel_rfl) (by kernel_rfl) (by kernel_rfl) (by kernel_rfl) (by kernel_rfl) (by kernel_rfl) (by decide)
  rcases List.mem_cons.1 hm with e | hm
  · cases e; exact (laid_iface h (show ("strconv.ErrSyntax", Rows.laid_strconv_ErrSyntax) ∈ laidL by simp [laidL]) (t := ((Tryz.prog.globals[2]?).map (·.type)).getD 0) (ms := ifcOf (Tryz.prog.underlying (((Tryz.prog.globals[2]?).map (·.type)).getD 0))) (by kernel_rfl) (by kernel_rfl) (by kernel_rfl)).g
  rcases List.mem_cons.1 hm with e | hm
  · cases e; exact (laid_iface h (show ("strconv.ErrRange", Rows.laid_strconv_ErrRange) ∈ laidL by simp [laidL]) (t := ((Tryz.prog.globals[3]?).map (·.type)).getD 0) (ms := ifcOf (Tryz.prog.underlying (((Tryz.prog.globals[3]?).map (·.type)).getD 0))) (by kernel_rfl) (by kernel_rfl) (by kernel_rfl)).g
  rcases List.mem_cons.1 hm with e | hm
  · cases e; exact laid_table (kd := .u8) (zs := [0, 0, 0, 0, 0, 0, 0, 0, 0, 1, 1, 1, 1, 1, 0, 0, 0, 0, 0, 0, 0, 0, 0, 0, 0, 0, 0, 0, 0, 0, 0, 0, 1, 0, 0, 0, 0, 0, 0, 0, 0, 0, 0, 0, 0, 0, 0, 0, 0, 0, 0, 0, 0, 0, 0, 0, 0, 0, 0, 0, 0, 0, 0, 0, 0, 0, 0, 0, 0, 0, 0, 0, 0, 0, 0, 0, 0, 0, 0, 0, 0, 0, 0, 0, 0, 0, 0, 0, 0, 0, 0, 0, 0, 0, 0, 0, 0, 0, 0, 0, 0, 0, 0, 0, 0, 0, 0, 0, 0, 0, 0, 0, 0, 0, 0, 0, 0, 0, 0, 0, 0, 0, 0, 0, 0, 0, 0, 0, 0, 0, 0, 0, 0, 0, 0, 0, 0, 0, 0, 0, 0, 0, 0, 0, 0, 0, 0, 0, 0, 0, 0, 0, 0, 0, 0, 0, 0, 0, 0, 0, 0, 0, 0, 0, 0, 0, 0, 0, 0, 0, 0, 0, 0, 0, 0, 0, 0, 0, 0, 0, 0, 0, 0, 0, 0, 0, 0, 0, 0, 0, 0, 0, 0, 0, 0, 0, 0, 0, 0, 0, 0, 0, 0, 0, 0, 0, 0, 0, 0, 0, 0, 0, 0, 0, 0, 0, 0, 0, 0, 0, 0, 0, 0, 0, 0, 0, 0, 0, 0, 0, 0, 0, 0, 0, 0, 0, 0, 0, 0, 0, 0, 0, 0, 0, 0, 0, 0, 0, 0, 0, 0, 0, 0, 0, 0, 0]) h (show ("strings.asciiSpace", Rows.laid_strings_asciiSpace) ∈ laidL by simp [laidL]) (t := ((Tryz.prog.globals[4]?).map (·.type)).getD 0) (e := elOf (Tryz.prog.underlying (((Tryz.prog.globals[4]?).map (·.type)).getD 0))) (by kernel_rfl) (by kernel_rfl) (by kernel_rfl) (by kernel_rfl) (by kernel_rfl) (by kernel_rfl) (by decide)
  rcases List.mem_cons.1 hm with e | hm
  · cases e; exact laid_table (kd := .u8) (zs := [0, 1, 28, 2, 29, 14, 24, 3, 30, 22, 20, 15, 25, 17, 4, 8, 31, 27, 13, 23, 21, 19, 16, 7, 26, 12, 18, 6, 11, 5, 10, 9]) h (show ("math/bits.deBruijn32tab", Rows.laid_math_bits_deBruijn32tab) ∈ laidL by simp [laidL]) (t := ((Tryz.prog.globals[8]?).map (·.type)).getD 0) (e := elOf (Tryz.prog.underlying (((Tryz.prog.globals[8]?).map (·.type)).getD 0))) (by kernel_rfl) (by kernel_rfl) (by kernel_rfl) (by kernel_rfl) (by kernel_rfl) (by kernel_rfl) (by decide)
  rcases List.mem_cons.1 hm with e | hm
  · cases e; exact laid_table (kd := .u8) (zs := [0, 1, 56, 2, 57, 49, 28, 3, 61, 58, 42, 50, 38, 29, 17, 4, 62, 47, 59, 36, 45, 43, 51, 22, 53, 39, 33, 30, 24, 18, 12, 5, 63, 55, 48, 27, 60, 41, 37, 16, 46, 35, 44, 21, 52, 32, 23, 11, 54, 26, 40, 15, 34, 20, 31, 10, 25, 14, 19, 9, 13, 8, 7, 6]) h (show ("math/bits.deBruijn64tab", Rows.laid_math_bits_deBruijn64tab) ∈ laidL by simp [laidL]) (t := ((Tryz.prog.globals[9]?).map (·.type)).getD 0) (e := elOf (Tryz.prog.underlying (((Tryz.prog.globals[9]?).map (·.type)).getD 0))) (by kernel_rfl) (by kernel_rfl) (by kernel_rfl) (by kernel_rfl) (by kernel_rfl) (by kernel_rfl) (by decide)
  cases hm
/-- The door's own heap meets the condition. -/
theorem door_met (os : Os) (args : Array Value) : laidMetH Tryz.prog laidL ((World.laidAll Tryz.prog os laidL).forCall (fun _ _ => 0) ⟨#[], args, []⟩).memory := by
  rw [Go.MakeChecks.laidMetH_plain _ _ _ (by kernel_rfl)]
  exact laidMet_laidAll _ (lay_f os) (lay_i os)
set_option maxRecDepth 100000 in
theorem lifted (os : Os) (started : os.Started) (H : Type) (enc : TypeId × Value → H) :
    ReturnsInHanded {} Tryz.checked os 3 .any (fun w args => (Rows.deskWordsSpec.pre enc Tryz.prog Tryz.f3 [] false w args ∧ laidMetH Tryz.prog laidL w) ∧ sizedMet enc Tryz.prog Tryz.f3 (OpenSpec.ofChange Rows.deskWordsSpec) false w args)
      (Rows.deskWordsSpec.post enc Tryz.prog Tryz.f3 false true false false) := by
  refine returnsInHanded_of_change_and (C := Tryz.checked) (X := fun w _ => laidMetH Tryz.prog laidL w) (fun _ _ _ hh h => h.of_heap hh) own started (by kernel_rfl) Tryz.func3
    (ChangeSpec.witness_shaped (enc := enc) (C := Tryz.checked) (os := os) (X := fun w _ => laidMetH Tryz.prog laidL w) false (World.laidAll Tryz.prog os laidL) #[.string ByteArray.empty, .string ByteArray.empty, .string ByteArray.empty] 8 (World.laidAll_os _ _ _) (World.shaped_of_ZipB (by kernel_rfl) (by kernel_rfl)) (by kernel_rfl) (by kernel_rfl) (by kernel_rfl) (door_met os _)) ?_
  intro W base args ds gs before hval0 hW hcnd _ hL _
  have hval : ∀ (j : Nat) t v, Tryz.f3.params[j]? = some t → args[j]? = some v → Value.okWide Tryz.prog W .any base t v := hval0
  have hW' := hW
  obtain ⟨p, q, hA0, hV, rfl, hfz, hnd⟩ := hW
  have hA : DataW.TrodAll enc Tryz.prog W 0 (fun _ => true) true Tryz.f3.params.toList args.toList ds p := hA0
  rw [Tryz.params3] at hA hval
  obtain ⟨v0, vs0, d0, ds0, p0, q0, hargs, rfl, rfl, h0, r0⟩ := trodAll_cons hA
  obtain ⟨v1, vs1, d1, ds1, p1, q1, rfl, rfl, rfl, h1, r1⟩ := trodAll_cons r0
  obtain ⟨v2, vs2, d2, ds2, p2, q2, rfl, rfl, rfl, h2, r2⟩ := trodAll_cons r1
  obtain ⟨rfl, rfl, rfl⟩ := trodAll_nil r2
  obtain rfl : args = #[v0, v1, v2] := by cases args; simp_all
  obtain ⟨rfl, rfl⟩ := trodVars_none hV
  obtain ⟨s0, rfl, rfl, rfl, z0⟩ := open_string Tryz.underlying9 (hval 0 9 v0 rfl rfl) h0
  obtain ⟨s1, rfl, rfl, rfl, z1⟩ := open_string Tryz.underlying9 (hval 1 9 v1 rfl rfl) h1
  obtain ⟨s2, rfl, rfl, rfl, z2⟩ := open_string Tryz.underlying9 (hval 2 9 v2 rfl rfl) h2
  clear hA0 hval0
  simp only [List.append_nil] at hW'
  refine (walk s0 s1 s2 W (gls hL)).mono fun e W' ⟨he, hg⟩ => ?_
  subst he
  exact ⟨_, rfl, postLaw (pa := []) (pv := []) hg hW' rfl (fun _ _ _ => (trodAll_cons_mk (shut_bool Tryz.underlying4 _) trodAll_mk0)) (fun sp _ => (trodAll_cons_mk (shut_string Tryz.underlying9 z0) (trodAll_cons_mk (shut_string Tryz.underlying9 z1) (trodAll_cons_mk (shut_string Tryz.underlying9 z2) trodAll_mk0)))) (fun _ _ => rfl)
    (ok_one (by kernel_rfl) rfl (okWide_bool_mk Tryz.underlying4 _))⟩

end Go.Proofs.YtgcineegnihcmaaGreatDoor.deskWords
