/-
  No cell of these rows narrows 'for every input' (looked for: loops, veiled, ifaces, maps, wideKeys, modest, calm, conditions, laid).
  DERIVED. THE GIVEN ROWS OF THIS SEAT. 5 by the template 'for every input the law returns true; each argument reads behind the call as it read before'; 0 by the template 'total and deterministic' (their statements: YtmhldlnlgjpkaaaTotals.lean).
  GIVEN WITH THE SEED: the statements are not yours to turn. If you find one false, say at which input.
  Laid BY PROGRAM, IN A SANDBOX (cutbox-rows.mjs): the forced cells as the released guide's own fill.sh prints them over the translation ebe33ff6342b2688… (all of the seat's roots in one cut). By AI agents, Wed Nov 11 2026. No macro, syntax, notation, axiom, sorry.
-/
import Derived.Test.YtmhldlnlgjpkaaaChecked
import GoSem.Claim
import GoSem.ClaimJoined
import GoSem.ClaimMapViews
import Derived.JoinedTies
import Derived.KernelRfl
namespace Go.Proofs.Ytmhldlnlgjpkaaa
/- THE CELL 'sum', in the pinned program and in every row, IS THE sha256 OF THE DUMP (.gsa) THAT YtmhldlnlgjpkaaaProg.lean LOADS. Nothing in Lean hashes anything: it is a label: what it is worth is what the hold of that sum in a sandbox is worth. -/
noncomputable def Try.pinned : Pinned := { name := "ytmhldlnlgjpkaaa", sum := "ebe33ff6342b2688ab369503da2b0c58d48396bd95b6aca59d42542edc066849", checked := Try.checked }
namespace Rows
def none {H : Type} : Left H := { results := [], args := [] }

/-- 'cedillalaw34.ScriptRight': WHATEVER THE INPUT: true; the input reads as it did. -/
def scriptRightSpec : ChangeSpec := { name := "scriptRight", fn := fun _ => fun
  | [d] => { results := [.lit (.bool true)], args := [d] }
  | _ => none }
def scriptRightRow : OpenClaim := { program := "ytmhldlnlgjpkaaa", sum := "ebe33ff6342b2688ab369503da2b0c58d48396bd95b6aca59d42542edc066849", func := "cedilla/cedillalaw34.ScriptRight", spec := "scriptRight", inPlace := ["internal/abi.NoEscape", "internal/bytealg.MakeNoZero"], unfollowed := true, recurses := true, apart := false }
def ScriptRightSaid : Prop := scriptRightRow.holds Try.pinned (OpenSpec.ofChange scriptRightSpec)

/-- ITS FALSE NEIGHBOUR: 'it returns false'. Refute it at one input. -/
def scriptRightWrong : ChangeSpec := { name := "scriptRight", fn := fun _ => fun
  | [d] => { results := [.lit (.bool false)], args := [d] }
  | _ => none }
def ScriptRightWrongFalsely : Prop := scriptRightRow.holds Try.pinned (OpenSpec.ofChange scriptRightWrong)

/-- 'cedillalaw34.ScriptMore': WHATEVER THE INPUT: true; the input reads as it did. -/
def scriptMoreSpec : ChangeSpec := { name := "scriptMore", fn := fun _ => fun
  | [d1, d2, d3] => { results := [.lit (.bool true)], args := [d1, d2, d3] }
  | _ => none }
def scriptMoreRow : OpenClaim := { program := "ytmhldlnlgjpkaaa", sum := "ebe33ff6342b2688ab369503da2b0c58d48396bd95b6aca59d42542edc066849", func := "cedilla/cedillalaw34.ScriptMore", spec := "scriptMore", inPlace := ["internal/abi.NoEscape", "internal/bytealg.MakeNoZero"], unfollowed := true, recurses := true, apart := false }
def ScriptMoreSaid : Prop := scriptMoreRow.holds Try.pinned (OpenSpec.ofChange scriptMoreSpec)

/-- ITS FALSE NEIGHBOUR: 'it returns false'. Refute it at one input. -/
def scriptMoreWrong : ChangeSpec := { name := "scriptMore", fn := fun _ => fun
  | [d1, d2, d3] => { results := [.lit (.bool false)], args := [d1, d2, d3] }
  | _ => none }
def ScriptMoreWrongFalsely : Prop := scriptMoreRow.holds Try.pinned (OpenSpec.ofChange scriptMoreWrong)

/-- 'cedillalaw34.ScriptParses': WHATEVER THE INPUT: true; the input reads as it did. -/
def scriptParsesSpec : ChangeSpec := { name := "scriptParses", fn := fun _ => fun
  | [d] => { results := [.lit (.bool true)], args := [d] }
  | _ => none }
def scriptParsesRow : OpenClaim := { program := "ytmhldlnlgjpkaaa", sum := "ebe33ff6342b2688ab369503da2b0c58d48396bd95b6aca59d42542edc066849", func := "cedilla/cedillalaw34.ScriptParses", spec := "scriptParses", inPlace := ["internal/abi.NoEscape", "internal/bytealg.MakeNoZero"], unfollowed := true, recurses := true, apart := false }
def ScriptParsesSaid : Prop := scriptParsesRow.holds Try.pinned (OpenSpec.ofChange scriptParsesSpec)

/-- ITS FALSE NEIGHBOUR: 'it returns false'. Refute it at one input. -/
def scriptParsesWrong : ChangeSpec := { name := "scriptParses", fn := fun _ => fun
  | [d] => { results := [.lit (.bool false)], args := [d] }
  | _ => none }
def ScriptParsesWrongFalsely : Prop := scriptParsesRow.holds Try.pinned (OpenSpec.ofChange scriptParsesWrong)

/-- 'cedillalaw34.ScriptLays': WHATEVER THE INPUT: true; the input reads as it did. -/
def scriptLaysSpec : ChangeSpec := { name := "scriptLays", fn := fun _ => fun
  | [d1, d2] => { results := [.lit (.bool true)], args := [d1, d2] }
  | _ => none }
def scriptLaysRow : OpenClaim := { program := "ytmhldlnlgjpkaaa", sum := "ebe33ff6342b2688ab369503da2b0c58d48396bd95b6aca59d42542edc066849", func := "cedilla/cedillalaw34.ScriptLays", spec := "scriptLays", inPlace := ["internal/abi.NoEscape", "internal/bytealg.MakeNoZero"], unfollowed := true, recurses := true, apart := false }
def ScriptLaysSaid : Prop := scriptLaysRow.holds Try.pinned (OpenSpec.ofChange scriptLaysSpec)

/-- ITS FALSE NEIGHBOUR: 'it returns false'. Refute it at one input. -/
def scriptLaysWrong : ChangeSpec := { name := "scriptLays", fn := fun _ => fun
  | [d1, d2] => { results := [.lit (.bool false)], args := [d1, d2] }
  | _ => none }
def ScriptLaysWrongFalsely : Prop := scriptLaysRow.holds Try.pinned (OpenSpec.ofChange scriptLaysWrong)

/-- 'cedillalaw34.ScriptBack': WHATEVER THE INPUT: true; the input reads as it did. -/
def scriptBackSpec : ChangeSpec := { name := "scriptBack", fn := fun _ => fun
  | [d] => { results := [.lit (.bool true)], args := [d] }
  | _ => none }
def scriptBackRow : OpenClaim := { program := "ytmhldlnlgjpkaaa", sum := "ebe33ff6342b2688ab369503da2b0c58d48396bd95b6aca59d42542edc066849", func := "cedilla/cedillalaw34.ScriptBack", spec := "scriptBack", inPlace := ["internal/abi.NoEscape", "internal/bytealg.MakeNoZero"], unfollowed := true, recurses := true, apart := false }
def ScriptBackSaid : Prop := scriptBackRow.holds Try.pinned (OpenSpec.ofChange scriptBackSpec)

/-- ITS FALSE NEIGHBOUR: 'it returns false'. Refute it at one input. -/
def scriptBackWrong : ChangeSpec := { name := "scriptBack", fn := fun _ => fun
  | [d] => { results := [.lit (.bool false)], args := [d] }
  | _ => none }
def ScriptBackWrongFalsely : Prop := scriptBackRow.holds Try.pinned (OpenSpec.ofChange scriptBackWrong)

/- THE SECOND FORM. 'bulk': how many values and letters a reading holds, each counted each time it is reached (what is shared counts as often as it is met; a slice's spare places count too). A statement '..UptoSaid' is the law's where the arguments, and the package variables that the reading takes, are together of bulk at most 1048576: NARROWER than '..Said'. Prove '..Said' where nothing that the law and all that it calls make is longer than what came in: it says more and counts as full. Else prove '..UptoSaid'. A law counts once. -/
mutual
def uptoBulk {H : Type} : DataW H → Nat
  | .lit (.string bytes) => bytes.length + 1
  | .lit _ => 1
  | .nil => 1
  | .ptr d => uptoBulk d + 1
  | .slice elems spare => uptoBulkAll elems + uptoBulkAll spare + 1
  | .agg parts => uptoBulkAll parts + 1
  | .iface _ d => uptoBulk d + 1
  | .map entries => uptoBulkEntries entries + 1
  | .held _ => 1
def uptoBulkAll {H : Type} : List (DataW H) → Nat
  | [] => 0
  | d :: r => uptoBulk d + uptoBulkAll r
def uptoBulkEntries {H : Type} : List (Lit × DataW H) → Nat
  | [] => 0
  | x :: r => uptoBulkEntry x + uptoBulkEntries r
def uptoBulkEntry {H : Type} : Lit × DataW H → Nat
  | (.string bytes, d) => bytes.length + uptoBulk d + 1
  | (_, d) => uptoBulk d + 1
 end
def uptoSmall : (H : Type) → List (DataW H) → Bool := fun _ ds => decide (uptoBulkAll ds ≤ 1048576)
def OpenSpec.upto (s : _root_.Go.ChangeSpec) : _root_.Go.OpenSpec := { _root_.Go.OpenSpec.ofChange s with cond := some uptoSmall }

/-- 'cedillalaw34.ScriptRight', WHERE WHAT IT READS IS OF BULK AT MOST 1048576: true; the input reads as it did. -/
def scriptRightUptoRow : OpenClaim := { program := "ytmhldlnlgjpkaaa", sum := "ebe33ff6342b2688ab369503da2b0c58d48396bd95b6aca59d42542edc066849", func := "cedilla/cedillalaw34.ScriptRight", spec := "scriptRight", inPlace := ["internal/abi.NoEscape", "internal/bytealg.MakeNoZero"], unfollowed := true, recurses := true, apart := false, narrowed := true }
def ScriptRightUptoSaid : Prop := scriptRightUptoRow.holds Try.pinned (OpenSpec.upto scriptRightSpec)

/-- 'cedillalaw34.ScriptMore', WHERE WHAT IT READS IS OF BULK AT MOST 1048576: true; the input reads as it did. -/
def scriptMoreUptoRow : OpenClaim := { program := "ytmhldlnlgjpkaaa", sum := "ebe33ff6342b2688ab369503da2b0c58d48396bd95b6aca59d42542edc066849", func := "cedilla/cedillalaw34.ScriptMore", spec := "scriptMore", inPlace := ["internal/abi.NoEscape", "internal/bytealg.MakeNoZero"], unfollowed := true, recurses := true, apart := false, narrowed := true }
def ScriptMoreUptoSaid : Prop := scriptMoreUptoRow.holds Try.pinned (OpenSpec.upto scriptMoreSpec)

/-- 'cedillalaw34.ScriptParses', WHERE WHAT IT READS IS OF BULK AT MOST 1048576: true; the input reads as it did. -/
def scriptParsesUptoRow : OpenClaim := { program := "ytmhldlnlgjpkaaa", sum := "ebe33ff6342b2688ab369503da2b0c58d48396bd95b6aca59d42542edc066849", func := "cedilla/cedillalaw34.ScriptParses", spec := "scriptParses", inPlace := ["internal/abi.NoEscape", "internal/bytealg.MakeNoZero"], unfollowed := true, recurses := true, apart := false, narrowed := true }
def ScriptParsesUptoSaid : Prop := scriptParsesUptoRow.holds Try.pinned (OpenSpec.upto scriptParsesSpec)

/-- 'cedillalaw34.ScriptLays', WHERE WHAT IT READS IS OF BULK AT MOST 1048576: true; the input reads as it did. -/
def scriptLaysUptoRow : OpenClaim := { program := "ytmhldlnlgjpkaaa", sum := "ebe33ff6342b2688ab369503da2b0c58d48396bd95b6aca59d42542edc066849", func := "cedilla/cedillalaw34.ScriptLays", spec := "scriptLays", inPlace := ["internal/abi.NoEscape", "internal/bytealg.MakeNoZero"], unfollowed := true, recurses := true, apart := false, narrowed := true }
def ScriptLaysUptoSaid : Prop := scriptLaysUptoRow.holds Try.pinned (OpenSpec.upto scriptLaysSpec)

/-- 'cedillalaw34.ScriptBack', WHERE WHAT IT READS IS OF BULK AT MOST 1048576: true; the input reads as it did. -/
def scriptBackUptoRow : OpenClaim := { program := "ytmhldlnlgjpkaaa", sum := "ebe33ff6342b2688ab369503da2b0c58d48396bd95b6aca59d42542edc066849", func := "cedilla/cedillalaw34.ScriptBack", spec := "scriptBack", inPlace := ["internal/abi.NoEscape", "internal/bytealg.MakeNoZero"], unfollowed := true, recurses := true, apart := false, narrowed := true }
def ScriptBackUptoSaid : Prop := scriptBackUptoRow.holds Try.pinned (OpenSpec.upto scriptBackSpec)

end Rows
end Go.Proofs.Ytmhldlnlgjpkaaa
