/-
  NARROWER THAN 'FOR EVERY INPUT', by the rows' own cells (each row's printed sentence says how): GlyphWords: laid · GlyphJoins: laid · GlyphFolds: laid · GlyphRunes: laid · GlyphTexts: laid · GlyphBack: laid · GlyphAdds: laid · GlyphNames: laid · GlyphTwice: laid.
  DERIVED. THE GIVEN ROWS OF THIS SEAT. 9 by the template 'for every input the law returns true; each argument reads behind the call as it read before'; 0 by the template 'total and deterministic' (their statements: YtnfjhfhdiknccaaDoorTotals.lean).
  GIVEN WITH THE SEED: the statements are not yours to turn. If you find one false, say at which input.
  Laid BY PROGRAM, IN A SANDBOX (cutbox-rows.mjs): the forced cells as the released guide's own fill.sh prints them over the translation 84961d4851199f3d… (all of the seat's roots in one cut). By AI agents, Wed Nov 11 2026. No macro, syntax, notation, axiom, sorry.
-/
import Derived.Test.YtnfjhfhdiknccaaDoorChecked
import GoSem.PinnedTables
import GoSem.Claim
import GoSem.ClaimJoined
import GoSem.ClaimMapViews
import Derived.JoinedTies
import Derived.KernelRfl
namespace Go.Proofs.YtnfjhfhdiknccaaDoor
/- THE CELL 'sum', in the pinned program and in every row, IS THE sha256 OF THE DUMP (.gsa) THAT YtnfjhfhdiknccaaDoorProg.lean LOADS. Nothing in Lean hashes anything: it is a label: what it is worth is what the hold of that sum in a sandbox is worth. -/
noncomputable def Tryd.pinned : Pinned := { name := "ytnfjhfhdiknccaadoor", sum := "84961d4851199f3d9f3fcff6d4a9444e14372b483be9e109e9dd4e8123848660", checked := Tryd.checked }
namespace Rows
def none {H : Type} : Left H := { results := [], args := [] }

/- WHAT THE LISTED PACKAGE-LEVEL VARIABLES READ AS WHEN THE CALL BEGINS. Each datum BY PROGRAM (the guide's laid-datum.mjs) off the statement by which the dump's own 'gosem.cut.vars' lays the variable. In a bare row this is a premise. The card (YtnfjhfhdiknccaaDoorCards.lean) ties it to the program's text. -/
def laid_unicode_utf8_acceptRanges {H : Type} : DataW H := .agg [.agg [.lit (.int .u8 128), .lit (.int .u8 191)], .agg [.lit (.int .u8 160), .lit (.int .u8 191)], .agg [.lit (.int .u8 128), .lit (.int .u8 159)], .agg [.lit (.int .u8 144), .lit (.int .u8 191)], .agg [.lit (.int .u8 128), .lit (.int .u8 143)], .agg [.lit (.int .u8 0), .lit (.int .u8 0)], .agg [.lit (.int .u8 0), .lit (.int .u8 0)], .agg [.lit (.int .u8 0), .lit (.int .u8 0)], .agg [.lit (.int .u8 0), .lit (.int .u8 0)], .agg [.lit (.int .u8 0), .lit (.int .u8 0)], .agg [.lit (.int .u8 0), .lit (.int .u8 0)], .agg [.lit (.int .u8 0), .lit (.int .u8 0)], .agg [.lit (.int .u8 0), .lit (.int .u8 0)], .agg [.lit (.int .u8 0), .lit (.int .u8 0)], .agg [.lit (.int .u8 0), .lit (.int .u8 0)], .agg [.lit (.int .u8 0), .lit (.int .u8 0)]]
/-- One of Go's own tables, pinned by name: the form's constant. -/
def laid_unicode_utf8_first : DataW Unit := Go.Pinned.utf8First

/-- 'ploverlaw01.GlyphWords': WHATEVER THE INPUT: true; the input reads as it did. -/
def glyphWordsSpec : ChangeSpec := { name := "glyphWords", fn := fun _ => fun
  | [d] => { results := [.lit (.bool true)], args := [d] }
  | _ => none }
def glyphWordsRow : OpenClaim := { program := "ytnfjhfhdiknccaadoor", sum := "84961d4851199f3d9f3fcff6d4a9444e14372b483be9e109e9dd4e8123848660", func := "plover/ploverlaw01.GlyphWords", spec := "glyphWords", unfollowed := true, recurses := true, named := ["unicode/utf8.first", "unicode/utf8.acceptRanges"], apart := false, laid := [("unicode/utf8.acceptRanges", laid_unicode_utf8_acceptRanges), ("unicode/utf8.first", laid_unicode_utf8_first)] }
def GlyphWordsSaid : Prop := glyphWordsRow.holds Tryd.pinned (OpenSpec.ofChange glyphWordsSpec)

/-- ITS FALSE NEIGHBOUR: 'it returns false'. Refute it at one input. -/
def glyphWordsWrong : ChangeSpec := { name := "glyphWords", fn := fun _ => fun
  | [d] => { results := [.lit (.bool false)], args := [d] }
  | _ => none }
def GlyphWordsWrongFalsely : Prop := glyphWordsRow.holds Tryd.pinned (OpenSpec.ofChange glyphWordsWrong)

/-- 'ploverlaw01.GlyphJoins': WHATEVER THE INPUT: true; the input reads as it did. -/
def glyphJoinsSpec : ChangeSpec := { name := "glyphJoins", fn := fun _ => fun
  | [d1, d2, d3] => { results := [.lit (.bool true)], args := [d1, d2, d3] }
  | _ => none }
def glyphJoinsRow : OpenClaim := { program := "ytnfjhfhdiknccaadoor", sum := "84961d4851199f3d9f3fcff6d4a9444e14372b483be9e109e9dd4e8123848660", func := "plover/ploverlaw01.GlyphJoins", spec := "glyphJoins", unfollowed := true, recurses := true, named := ["unicode/utf8.first", "unicode/utf8.acceptRanges"], apart := false, laid := [("unicode/utf8.acceptRanges", laid_unicode_utf8_acceptRanges), ("unicode/utf8.first", laid_unicode_utf8_first)] }
def GlyphJoinsSaid : Prop := glyphJoinsRow.holds Tryd.pinned (OpenSpec.ofChange glyphJoinsSpec)

/-- ITS FALSE NEIGHBOUR: 'it returns false'. Refute it at one input. -/
def glyphJoinsWrong : ChangeSpec := { name := "glyphJoins", fn := fun _ => fun
  | [d1, d2, d3] => { results := [.lit (.bool false)], args := [d1, d2, d3] }
  | _ => none }
def GlyphJoinsWrongFalsely : Prop := glyphJoinsRow.holds Tryd.pinned (OpenSpec.ofChange glyphJoinsWrong)

/-- 'ploverlaw01.GlyphFolds': WHATEVER THE INPUT: true; the input reads as it did. -/
def glyphFoldsSpec : ChangeSpec := { name := "glyphFolds", fn := fun _ => fun
  | [d] => { results := [.lit (.bool true)], args := [d] }
  | _ => none }
def glyphFoldsRow : OpenClaim := { program := "ytnfjhfhdiknccaadoor", sum := "84961d4851199f3d9f3fcff6d4a9444e14372b483be9e109e9dd4e8123848660", func := "plover/ploverlaw01.GlyphFolds", spec := "glyphFolds", inPlace := ["internal/abi.NoEscape"], named := ["unicode/utf8.first", "unicode/utf8.acceptRanges"], apart := false, laid := [("unicode/utf8.acceptRanges", laid_unicode_utf8_acceptRanges), ("unicode/utf8.first", laid_unicode_utf8_first)] }
def GlyphFoldsSaid : Prop := glyphFoldsRow.holds Tryd.pinned (OpenSpec.ofChange glyphFoldsSpec)

/-- ITS FALSE NEIGHBOUR: 'it returns false'. Refute it at one input. -/
def glyphFoldsWrong : ChangeSpec := { name := "glyphFolds", fn := fun _ => fun
  | [d] => { results := [.lit (.bool false)], args := [d] }
  | _ => none }
def GlyphFoldsWrongFalsely : Prop := glyphFoldsRow.holds Tryd.pinned (OpenSpec.ofChange glyphFoldsWrong)

/-- 'ploverlaw01.GlyphRunes': WHATEVER THE INPUT: true; the input reads as it did. -/
def glyphRunesSpec : ChangeSpec := { name := "glyphRunes", fn := fun _ => fun
  | [d] => { results := [.lit (.bool true)], args := [d] }
  | _ => none }
def glyphRunesRow : OpenClaim := { program := "ytnfjhfhdiknccaadoor", sum := "84961d4851199f3d9f3fcff6d4a9444e14372b483be9e109e9dd4e8123848660", func := "plover/ploverlaw01.GlyphRunes", spec := "glyphRunes", inPlace := ["internal/abi.NoEscape"], named := ["unicode/utf8.first", "unicode/utf8.acceptRanges"], apart := false, laid := [("unicode/utf8.acceptRanges", laid_unicode_utf8_acceptRanges), ("unicode/utf8.first", laid_unicode_utf8_first)] }
def GlyphRunesSaid : Prop := glyphRunesRow.holds Tryd.pinned (OpenSpec.ofChange glyphRunesSpec)

/-- ITS FALSE NEIGHBOUR: 'it returns false'. Refute it at one input. -/
def glyphRunesWrong : ChangeSpec := { name := "glyphRunes", fn := fun _ => fun
  | [d] => { results := [.lit (.bool false)], args := [d] }
  | _ => none }
def GlyphRunesWrongFalsely : Prop := glyphRunesRow.holds Tryd.pinned (OpenSpec.ofChange glyphRunesWrong)

/-- 'ploverlaw01.GlyphTexts': WHATEVER THE INPUT: true; the input reads as it did. -/
def glyphTextsSpec : ChangeSpec := { name := "glyphTexts", fn := fun _ => fun
  | [d] => { results := [.lit (.bool true)], args := [d] }
  | _ => none }
def glyphTextsRow : OpenClaim := { program := "ytnfjhfhdiknccaadoor", sum := "84961d4851199f3d9f3fcff6d4a9444e14372b483be9e109e9dd4e8123848660", func := "plover/ploverlaw01.GlyphTexts", spec := "glyphTexts", inPlace := ["internal/abi.NoEscape"], named := ["unicode/utf8.first", "unicode/utf8.acceptRanges"], apart := false, laid := [("unicode/utf8.acceptRanges", laid_unicode_utf8_acceptRanges), ("unicode/utf8.first", laid_unicode_utf8_first)] }
def GlyphTextsSaid : Prop := glyphTextsRow.holds Tryd.pinned (OpenSpec.ofChange glyphTextsSpec)

/-- ITS FALSE NEIGHBOUR: 'it returns false'. Refute it at one input. -/
def glyphTextsWrong : ChangeSpec := { name := "glyphTexts", fn := fun _ => fun
  | [d] => { results := [.lit (.bool false)], args := [d] }
  | _ => none }
def GlyphTextsWrongFalsely : Prop := glyphTextsRow.holds Tryd.pinned (OpenSpec.ofChange glyphTextsWrong)

/-- 'ploverlaw01.GlyphBack': WHATEVER THE INPUT: true; the input reads as it did. -/
def glyphBackSpec : ChangeSpec := { name := "glyphBack", fn := fun _ => fun
  | [d1, d2] => { results := [.lit (.bool true)], args := [d1, d2] }
  | _ => none }
def glyphBackRow : OpenClaim := { program := "ytnfjhfhdiknccaadoor", sum := "84961d4851199f3d9f3fcff6d4a9444e14372b483be9e109e9dd4e8123848660", func := "plover/ploverlaw01.GlyphBack", spec := "glyphBack", inPlace := ["internal/abi.NoEscape"], named := ["unicode/utf8.first", "unicode/utf8.acceptRanges"], apart := false, laid := [("unicode/utf8.acceptRanges", laid_unicode_utf8_acceptRanges), ("unicode/utf8.first", laid_unicode_utf8_first)] }
def GlyphBackSaid : Prop := glyphBackRow.holds Tryd.pinned (OpenSpec.ofChange glyphBackSpec)

/-- ITS FALSE NEIGHBOUR: 'it returns false'. Refute it at one input. -/
def glyphBackWrong : ChangeSpec := { name := "glyphBack", fn := fun _ => fun
  | [d1, d2] => { results := [.lit (.bool false)], args := [d1, d2] }
  | _ => none }
def GlyphBackWrongFalsely : Prop := glyphBackRow.holds Tryd.pinned (OpenSpec.ofChange glyphBackWrong)

/-- 'ploverlaw01.GlyphAdds': WHATEVER THE INPUT: true; the input reads as it did. -/
def glyphAddsSpec : ChangeSpec := { name := "glyphAdds", fn := fun _ => fun
  | [d1, d2] => { results := [.lit (.bool true)], args := [d1, d2] }
  | _ => none }
def glyphAddsRow : OpenClaim := { program := "ytnfjhfhdiknccaadoor", sum := "84961d4851199f3d9f3fcff6d4a9444e14372b483be9e109e9dd4e8123848660", func := "plover/ploverlaw01.GlyphAdds", spec := "glyphAdds", inPlace := ["internal/abi.NoEscape"], named := ["unicode/utf8.first", "unicode/utf8.acceptRanges"], apart := false, laid := [("unicode/utf8.acceptRanges", laid_unicode_utf8_acceptRanges), ("unicode/utf8.first", laid_unicode_utf8_first)] }
def GlyphAddsSaid : Prop := glyphAddsRow.holds Tryd.pinned (OpenSpec.ofChange glyphAddsSpec)

/-- ITS FALSE NEIGHBOUR: 'it returns false'. Refute it at one input. -/
def glyphAddsWrong : ChangeSpec := { name := "glyphAdds", fn := fun _ => fun
  | [d1, d2] => { results := [.lit (.bool false)], args := [d1, d2] }
  | _ => none }
def GlyphAddsWrongFalsely : Prop := glyphAddsRow.holds Tryd.pinned (OpenSpec.ofChange glyphAddsWrong)

/-- 'ploverlaw01.GlyphNames': WHATEVER THE INPUT: true; the input reads as it did. -/
def glyphNamesSpec : ChangeSpec := { name := "glyphNames", fn := fun _ => fun
  | [d] => { results := [.lit (.bool true)], args := [d] }
  | _ => none }
def glyphNamesRow : OpenClaim := { program := "ytnfjhfhdiknccaadoor", sum := "84961d4851199f3d9f3fcff6d4a9444e14372b483be9e109e9dd4e8123848660", func := "plover/ploverlaw01.GlyphNames", spec := "glyphNames", inPlace := ["internal/abi.NoEscape"], named := ["unicode/utf8.first", "unicode/utf8.acceptRanges"], apart := false, laid := [("unicode/utf8.acceptRanges", laid_unicode_utf8_acceptRanges), ("unicode/utf8.first", laid_unicode_utf8_first)] }
def GlyphNamesSaid : Prop := glyphNamesRow.holds Tryd.pinned (OpenSpec.ofChange glyphNamesSpec)

/-- ITS FALSE NEIGHBOUR: 'it returns false'. Refute it at one input. -/
def glyphNamesWrong : ChangeSpec := { name := "glyphNames", fn := fun _ => fun
  | [d] => { results := [.lit (.bool false)], args := [d] }
  | _ => none }
def GlyphNamesWrongFalsely : Prop := glyphNamesRow.holds Tryd.pinned (OpenSpec.ofChange glyphNamesWrong)

/-- 'ploverlaw01.GlyphTwice': WHATEVER THE INPUT: true; the input reads as it did. -/
def glyphTwiceSpec : ChangeSpec := { name := "glyphTwice", fn := fun _ => fun
  | [d] => { results := [.lit (.bool true)], args := [d] }
  | _ => none }
def glyphTwiceRow : OpenClaim := { program := "ytnfjhfhdiknccaadoor", sum := "84961d4851199f3d9f3fcff6d4a9444e14372b483be9e109e9dd4e8123848660", func := "plover/ploverlaw01.GlyphTwice", spec := "glyphTwice", inPlace := ["internal/abi.NoEscape"], unfollowed := true, recurses := true, named := ["unicode/utf8.first", "unicode/utf8.acceptRanges"], apart := false, laid := [("unicode/utf8.acceptRanges", laid_unicode_utf8_acceptRanges), ("unicode/utf8.first", laid_unicode_utf8_first)] }
def GlyphTwiceSaid : Prop := glyphTwiceRow.holds Tryd.pinned (OpenSpec.ofChange glyphTwiceSpec)

/-- ITS FALSE NEIGHBOUR: 'it returns false'. Refute it at one input. -/
def glyphTwiceWrong : ChangeSpec := { name := "glyphTwice", fn := fun _ => fun
  | [d] => { results := [.lit (.bool false)], args := [d] }
  | _ => none }
def GlyphTwiceWrongFalsely : Prop := glyphTwiceRow.holds Tryd.pinned (OpenSpec.ofChange glyphTwiceWrong)

/- THE SECOND FORM. 'bulk': how many values and letters a reading holds, each counted each time it is reached (what is shared counts as often as it is met; a slice's spare places count too). A statement '..UptoSaid' is the law's where the arguments, and the package variables that the reading takes, are together of bulk at most 1048576: NARROWER than '..Said'. Prove '..Said' where nothing that the law and all that it calls make is longer than what came in: it says more and counts as full. Else prove '..UptoSaid'. A law counts once. -/
mutual
def uptoBulk {H : Type} : DataW H → Nat
  | .lit (.string bytes) => bytes.length + 1
  | .lit _ => 1
  | .nil => 1
  | .ptr d => uptoBulk d + 1
  | .slice elems spare => uptoBulkAll elems + uptoBulkAll spare + 1
  | .agg parts => uptoBulkAll parts + 1
  | .iface _ d => uptoBulk d + 1
  | .map entries => uptoBulkEntries entries + 1
  | .held _ => 1
def uptoBulkAll {H : Type} : List (DataW H) → Nat
  | [] => 0
  | d :: r => uptoBulk d + uptoBulkAll r
def uptoBulkEntries {H : Type} : List (Lit × DataW H) → Nat
  | [] => 0
  | x :: r => uptoBulkEntry x + uptoBulkEntries r
def uptoBulkEntry {H : Type} : Lit × DataW H → Nat
  | (.string bytes, d) => bytes.length + uptoBulk d + 1
  | (_, d) => uptoBulk d + 1
 end
def uptoSmall : (H : Type) → List (DataW H) → Bool := fun _ ds => decide (uptoBulkAll ds ≤ 1048576)
def OpenSpec.upto (s : _root_.Go.ChangeSpec) : _root_.Go.OpenSpec := { _root_.Go.OpenSpec.ofChange s with cond := some uptoSmall }

/-- 'ploverlaw01.GlyphWords', WHERE WHAT IT READS IS OF BULK AT MOST 1048576: true; the input reads as it did. -/
def glyphWordsUptoRow : OpenClaim := { program := "ytnfjhfhdiknccaadoor", sum := "84961d4851199f3d9f3fcff6d4a9444e14372b483be9e109e9dd4e8123848660", func := "plover/ploverlaw01.GlyphWords", spec := "glyphWords", unfollowed := true, recurses := true, named := ["unicode/utf8.first", "unicode/utf8.acceptRanges"], apart := false, laid := [("unicode/utf8.acceptRanges", laid_unicode_utf8_acceptRanges), ("unicode/utf8.first", laid_unicode_utf8_first)], narrowed := true }
def GlyphWordsUptoSaid : Prop := glyphWordsUptoRow.holds Tryd.pinned (OpenSpec.upto glyphWordsSpec)

/-- 'ploverlaw01.GlyphJoins', WHERE WHAT IT READS IS OF BULK AT MOST 1048576: true; the input reads as it did. -/
def glyphJoinsUptoRow : OpenClaim := { program := "ytnfjhfhdiknccaadoor", sum := "84961d4851199f3d9f3fcff6d4a9444e14372b483be9e109e9dd4e8123848660", func := "plover/ploverlaw01.GlyphJoins", spec := "glyphJoins", unfollowed := true, recurses := true, named := ["unicode/utf8.first", "unicode/utf8.acceptRanges"], apart := false, laid := [("unicode/utf8.acceptRanges", laid_unicode_utf8_acceptRanges), ("unicode/utf8.first", laid_unicode_utf8_first)], narrowed := true }
def GlyphJoinsUptoSaid : Prop := glyphJoinsUptoRow.holds Tryd.pinned (OpenSpec.upto glyphJoinsSpec)

/-- 'ploverlaw01.GlyphFolds', WHERE WHAT IT READS IS OF BULK AT MOST 1048576: true; the input reads as it did. -/
def glyphFoldsUptoRow : OpenClaim := { program := "ytnfjhfhdiknccaadoor", sum := "84961d4851199f3d9f3fcff6d4a9444e14372b483be9e109e9dd4e8123848660", func := "plover/ploverlaw01.GlyphFolds", spec := "glyphFolds", inPlace := ["internal/abi.NoEscape"], named := ["unicode/utf8.first", "unicode/utf8.acceptRanges"], apart := false, laid := [("unicode/utf8.acceptRanges", laid_unicode_utf8_acceptRanges), ("unicode/utf8.first", laid_unicode_utf8_first)], narrowed := true }
def GlyphFoldsUptoSaid : Prop := glyphFoldsUptoRow.holds Tryd.pinned (OpenSpec.upto glyphFoldsSpec)

/-- 'ploverlaw01.GlyphRunes', WHERE WHAT IT READS IS OF BULK AT MOST 1048576: true; the input reads as it did. -/
def glyphRunesUptoRow : OpenClaim := { program := "ytnfjhfhdiknccaadoor", sum := "84961d4851199f3d9f3fcff6d4a9444e14372b483be9e109e9dd4e8123848660", func := "plover/ploverlaw01.GlyphRunes", spec := "glyphRunes", inPlace := ["internal/abi.NoEscape"], named := ["unicode/utf8.first", "unicode/utf8.acceptRanges"], apart := false, laid := [("unicode/utf8.acceptRanges", laid_unicode_utf8_acceptRanges), ("unicode/utf8.first", laid_unicode_utf8_first)], narrowed := true }
def GlyphRunesUptoSaid : Prop := glyphRunesUptoRow.holds Tryd.pinned (OpenSpec.upto glyphRunesSpec)

/-- 'ploverlaw01.GlyphTexts', WHERE WHAT IT READS IS OF BULK AT MOST 1048576: true; the input reads as it did. -/
def glyphTextsUptoRow : OpenClaim := { program := "ytnfjhfhdiknccaadoor", sum := "84961d4851199f3d9f3fcff6d4a9444e14372b483be9e109e9dd4e8123848660", func := "plover/ploverlaw01.GlyphTexts", spec := "glyphTexts", inPlace := ["internal/abi.NoEscape"], named := ["unicode/utf8.first", "unicode/utf8.acceptRanges"], apart := false, laid := [("unicode/utf8.acceptRanges", laid_unicode_utf8_acceptRanges), ("unicode/utf8.first", laid_unicode_utf8_first)], narrowed := true }
def GlyphTextsUptoSaid : Prop := glyphTextsUptoRow.holds Tryd.pinned (OpenSpec.upto glyphTextsSpec)

/-- 'ploverlaw01.GlyphBack', WHERE WHAT IT READS IS OF BULK AT MOST 1048576: true; the input reads as it did. -/
def glyphBackUptoRow : OpenClaim := { program := "ytnfjhfhdiknccaadoor", sum := "84961d4851199f3d9f3fcff6d4a9444e14372b483be9e109e9dd4e8123848660", func := "plover/ploverlaw01.GlyphBack", spec := "glyphBack", inPlace := ["internal/abi.NoEscape"], named := ["unicode/utf8.first", "unicode/utf8.acceptRanges"], apart := false, laid := [("unicode/utf8.acceptRanges", laid_unicode_utf8_acceptRanges), ("unicode/utf8.first", laid_unicode_utf8_first)], narrowed := true }
def GlyphBackUptoSaid : Prop := glyphBackUptoRow.holds Tryd.pinned (OpenSpec.upto glyphBackSpec)

/-- 'ploverlaw01.GlyphAdds', WHERE WHAT IT READS IS OF BULK AT MOST 1048576: true; the input reads as it did. -/
def glyphAddsUptoRow : OpenClaim := { program := "ytnfjhfhdiknccaadoor", sum := "84961d4851199f3d9f3fcff6d4a9444e14372b483be9e109e9dd4e8123848660", func := "plover/ploverlaw01.GlyphAdds", spec := "glyphAdds", inPlace := ["internal/abi.NoEscape"], named := ["unicode/utf8.first", "unicode/utf8.acceptRanges"], apart := false, laid := [("unicode/utf8.acceptRanges", laid_unicode_utf8_acceptRanges), ("unicode/utf8.first", laid_unicode_utf8_first)], narrowed := true }
def GlyphAddsUptoSaid : Prop := glyphAddsUptoRow.holds Tryd.pinned (OpenSpec.upto glyphAddsSpec)

/-- 'ploverlaw01.GlyphNames', WHERE WHAT IT READS IS OF BULK AT MOST 1048576: true; the input reads as it did. -/
def glyphNamesUptoRow : OpenClaim := { program := "ytnfjhfhdiknccaadoor", sum := "84961d4851199f3d9f3fcff6d4a9444e14372b483be9e109e9dd4e8123848660", func := "plover/ploverlaw01.GlyphNames", spec := "glyphNames", inPlace := ["internal/abi.NoEscape"], named := ["unicode/utf8.first", "unicode/utf8.acceptRanges"], apart := false, laid := [("unicode/utf8.acceptRanges", laid_unicode_utf8_acceptRanges), ("unicode/utf8.first", laid_unicode_utf8_first)], narrowed := true }
def GlyphNamesUptoSaid : Prop := glyphNamesUptoRow.holds Tryd.pinned (OpenSpec.upto glyphNamesSpec)

/-- 'ploverlaw01.GlyphTwice', WHERE WHAT IT READS IS OF BULK AT MOST 1048576: true; the input reads as it did. -/
def glyphTwiceUptoRow : OpenClaim := { program := "ytnfjhfhdiknccaadoor", sum := "84961d4851199f3d9f3fcff6d4a9444e14372b483be9e109e9dd4e8123848660", func := "plover/ploverlaw01.GlyphTwice", spec := "glyphTwice", inPlace := ["internal/abi.NoEscape"], unfollowed := true, recurses := true, named := ["unicode/utf8.first", "unicode/utf8.acceptRanges"], apart := false, laid := [("unicode/utf8.acceptRanges", laid_unicode_utf8_acceptRanges), ("unicode/utf8.first", laid_unicode_utf8_first)], narrowed := true }
def GlyphTwiceUptoSaid : Prop := glyphTwiceUptoRow.holds Tryd.pinned (OpenSpec.upto glyphTwiceSpec)

end Rows
end Go.Proofs.YtnfjhfhdiknccaaDoor
