/-
  DERIVED. GIVEN WITH THE SEED: THE CARDS: each row of YtnfjhfhdiknccaaDoorRows.lean that lists a variable, with what it lists TIED to the program's text (the seventh form; the later family's looks); each row that meets fmt, with fmt's text TOLD by the authors' own Lean function (tested against real Go, not proved from fmt's source: count such statements apart). THE CARD IS WHAT COUNTS. Prove the row's statement (the work); the ties are given (YtnfjhfhdiknccaaDoorTie.lean); close each card by the builder's one call (the guide's Derived/Test/ToyasCard.lean, 'card_holds'). Laid BY PROGRAM, IN A SANDBOX (cutbox-door.mjs). By AI agents, Wed Nov 11 2026. No macro, syntax, notation, axiom, sorry.
-/
import Derived.Test.YtnfjhfhdiknccaaDoorRows
import GoSem.ClaimSeven
namespace Go.Proofs.YtnfjhfhdiknccaaDoor
namespace Rows

/-- THE TIED CARD OF 'ploverlaw01.GlyphWords'. -/
def glyphWordsCard : Claim7 := { stood := { row := glyphWordsRow, standIns := [], harness := (true, "062ce432cedc2d1b65683ebc517b7e0ae9da065d9a64cef2ca90c88ee6a7396e"), looks := false }, kinds := [], alts := [], laidByText := true, laidKinds := [.data, .pinned], laidTests := true, laidLooks := .later }
def GlyphWordsCardSaid : Prop := Claim7.holds Tryd.pinned (.plain (OpenSpec.ofChange glyphWordsSpec)) glyphWordsCard

/-- THE TIED CARD OF 'ploverlaw01.GlyphJoins'. -/
def glyphJoinsCard : Claim7 := { stood := { row := glyphJoinsRow, standIns := [], harness := (true, "062ce432cedc2d1b65683ebc517b7e0ae9da065d9a64cef2ca90c88ee6a7396e"), looks := false }, kinds := [], alts := [], laidByText := true, laidKinds := [.data, .pinned], laidTests := true, laidLooks := .later }
def GlyphJoinsCardSaid : Prop := Claim7.holds Tryd.pinned (.plain (OpenSpec.ofChange glyphJoinsSpec)) glyphJoinsCard

/-- THE TIED CARD OF 'ploverlaw01.GlyphFolds'. -/
def glyphFoldsCard : Claim7 := { stood := { row := glyphFoldsRow, standIns := [], harness := (true, "062ce432cedc2d1b65683ebc517b7e0ae9da065d9a64cef2ca90c88ee6a7396e"), looks := false }, kinds := [], alts := [], laidByText := true, laidKinds := [.data, .pinned], laidTests := true, laidLooks := .later }
def GlyphFoldsCardSaid : Prop := Claim7.holds Tryd.pinned (.plain (OpenSpec.ofChange glyphFoldsSpec)) glyphFoldsCard

/-- THE TIED CARD OF 'ploverlaw01.GlyphRunes'. -/
def glyphRunesCard : Claim7 := { stood := { row := glyphRunesRow, standIns := [], harness := (true, "062ce432cedc2d1b65683ebc517b7e0ae9da065d9a64cef2ca90c88ee6a7396e"), looks := false }, kinds := [], alts := [], laidByText := true, laidKinds := [.data, .pinned], laidTests := true, laidLooks := .later }
def GlyphRunesCardSaid : Prop := Claim7.holds Tryd.pinned (.plain (OpenSpec.ofChange glyphRunesSpec)) glyphRunesCard

/-- THE TIED CARD OF 'ploverlaw01.GlyphTexts'. -/
def glyphTextsCard : Claim7 := { stood := { row := glyphTextsRow, standIns := [], harness := (true, "062ce432cedc2d1b65683ebc517b7e0ae9da065d9a64cef2ca90c88ee6a7396e"), looks := false }, kinds := [], alts := [], laidByText := true, laidKinds := [.data, .pinned], laidTests := true, laidLooks := .later }
def GlyphTextsCardSaid : Prop := Claim7.holds Tryd.pinned (.plain (OpenSpec.ofChange glyphTextsSpec)) glyphTextsCard

/-- THE TIED CARD OF 'ploverlaw01.GlyphBack'. -/
def glyphBackCard : Claim7 := { stood := { row := glyphBackRow, standIns := [], harness := (true, "062ce432cedc2d1b65683ebc517b7e0ae9da065d9a64cef2ca90c88ee6a7396e"), looks := false }, kinds := [], alts := [], laidByText := true, laidKinds := [.data, .pinned], laidTests := true, laidLooks := .later }
def GlyphBackCardSaid : Prop := Claim7.holds Tryd.pinned (.plain (OpenSpec.ofChange glyphBackSpec)) glyphBackCard

/-- THE TIED CARD OF 'ploverlaw01.GlyphAdds'. -/
def glyphAddsCard : Claim7 := { stood := { row := glyphAddsRow, standIns := [], harness := (true, "062ce432cedc2d1b65683ebc517b7e0ae9da065d9a64cef2ca90c88ee6a7396e"), looks := false }, kinds := [], alts := [], laidByText := true, laidKinds := [.data, .pinned], laidTests := true, laidLooks := .later }
def GlyphAddsCardSaid : Prop := Claim7.holds Tryd.pinned (.plain (OpenSpec.ofChange glyphAddsSpec)) glyphAddsCard

/-- THE TIED CARD OF 'ploverlaw01.GlyphNames'. -/
def glyphNamesCard : Claim7 := { stood := { row := glyphNamesRow, standIns := [], harness := (true, "062ce432cedc2d1b65683ebc517b7e0ae9da065d9a64cef2ca90c88ee6a7396e"), looks := false }, kinds := [], alts := [], laidByText := true, laidKinds := [.data, .pinned], laidTests := true, laidLooks := .later }
def GlyphNamesCardSaid : Prop := Claim7.holds Tryd.pinned (.plain (OpenSpec.ofChange glyphNamesSpec)) glyphNamesCard

/-- THE TIED CARD OF 'ploverlaw01.GlyphTwice'. -/
def glyphTwiceCard : Claim7 := { stood := { row := glyphTwiceRow, standIns := [], harness := (true, "062ce432cedc2d1b65683ebc517b7e0ae9da065d9a64cef2ca90c88ee6a7396e"), looks := false }, kinds := [], alts := [], laidByText := true, laidKinds := [.data, .pinned], laidTests := true, laidLooks := .later }
def GlyphTwiceCardSaid : Prop := Claim7.holds Tryd.pinned (.plain (OpenSpec.ofChange glyphTwiceSpec)) glyphTwiceCard

/-- THE SECOND FORM's CARD OF 'ploverlaw01.GlyphWords'. -/
def glyphWordsUptoCard : Claim7 := { stood := { row := glyphWordsUptoRow, standIns := [], harness := (true, "062ce432cedc2d1b65683ebc517b7e0ae9da065d9a64cef2ca90c88ee6a7396e"), looks := false }, kinds := [], alts := [], laidByText := true, laidKinds := [.data, .pinned], laidTests := true, laidLooks := .later }
def GlyphWordsUptoCardSaid : Prop := Claim7.holds Tryd.pinned (.plain (OpenSpec.upto glyphWordsSpec)) glyphWordsUptoCard

/-- THE SECOND FORM's CARD OF 'ploverlaw01.GlyphJoins'. -/
def glyphJoinsUptoCard : Claim7 := { stood := { row := glyphJoinsUptoRow, standIns := [], harness := (true, "062ce432cedc2d1b65683ebc517b7e0ae9da065d9a64cef2ca90c88ee6a7396e"), looks := false }, kinds := [], alts := [], laidByText := true, laidKinds := [.data, .pinned], laidTests := true, laidLooks := .later }
def GlyphJoinsUptoCardSaid : Prop := Claim7.holds Tryd.pinned (.plain (OpenSpec.upto glyphJoinsSpec)) glyphJoinsUptoCard

/-- THE SECOND FORM's CARD OF 'ploverlaw01.GlyphFolds'. -/
def glyphFoldsUptoCard : Claim7 := { stood := { row := glyphFoldsUptoRow, standIns := [], harness := (true, "062ce432cedc2d1b65683ebc517b7e0ae9da065d9a64cef2ca90c88ee6a7396e"), looks := false }, kinds := [], alts := [], laidByText := true, laidKinds := [.data, .pinned], laidTests := true, laidLooks := .later }
def GlyphFoldsUptoCardSaid : Prop := Claim7.holds Tryd.pinned (.plain (OpenSpec.upto glyphFoldsSpec)) glyphFoldsUptoCard

/-- THE SECOND FORM's CARD OF 'ploverlaw01.GlyphRunes'. -/
def glyphRunesUptoCard : Claim7 := { stood := { row := glyphRunesUptoRow, standIns := [], harness := (true, "062ce432cedc2d1b65683ebc517b7e0ae9da065d9a64cef2ca90c88ee6a7396e"), looks := false }, kinds := [], alts := [], laidByText := true, laidKinds := [.data, .pinned], laidTests := true, laidLooks := .later }
def GlyphRunesUptoCardSaid : Prop := Claim7.holds Tryd.pinned (.plain (OpenSpec.upto glyphRunesSpec)) glyphRunesUptoCard

/-- THE SECOND FORM's CARD OF 'ploverlaw01.GlyphTexts'. -/
def glyphTextsUptoCard : Claim7 := { stood := { row := glyphTextsUptoRow, standIns := [], harness := (true, "062ce432cedc2d1b65683ebc517b7e0ae9da065d9a64cef2ca90c88ee6a7396e"), looks := false }, kinds := [], alts := [], laidByText := true, laidKinds := [.data, .pinned], laidTests := true, laidLooks := .later }
def GlyphTextsUptoCardSaid : Prop := Claim7.holds Tryd.pinned (.plain (OpenSpec.upto glyphTextsSpec)) glyphTextsUptoCard

/-- THE SECOND FORM's CARD OF 'ploverlaw01.GlyphBack'. -/
def glyphBackUptoCard : Claim7 := { stood := { row := glyphBackUptoRow, standIns := [], harness := (true, "062ce432cedc2d1b65683ebc517b7e0ae9da065d9a64cef2ca90c88ee6a7396e"), looks := false }, kinds := [], alts := [], laidByText := true, laidKinds := [.data, .pinned], laidTests := true, laidLooks := .later }
def GlyphBackUptoCardSaid : Prop := Claim7.holds Tryd.pinned (.plain (OpenSpec.upto glyphBackSpec)) glyphBackUptoCard

/-- THE SECOND FORM's CARD OF 'ploverlaw01.GlyphAdds'. -/
def glyphAddsUptoCard : Claim7 := { stood := { row := glyphAddsUptoRow, standIns := [], harness := (true, "062ce432cedc2d1b65683ebc517b7e0ae9da065d9a64cef2ca90c88ee6a7396e"), looks := false }, kinds := [], alts := [], laidByText := true, laidKinds := [.data, .pinned], laidTests := true, laidLooks := .later }
def GlyphAddsUptoCardSaid : Prop := Claim7.holds Tryd.pinned (.plain (OpenSpec.upto glyphAddsSpec)) glyphAddsUptoCard

/-- THE SECOND FORM's CARD OF 'ploverlaw01.GlyphNames'. -/
def glyphNamesUptoCard : Claim7 := { stood := { row := glyphNamesUptoRow, standIns := [], harness := (true, "062ce432cedc2d1b65683ebc517b7e0ae9da065d9a64cef2ca90c88ee6a7396e"), looks := false }, kinds := [], alts := [], laidByText := true, laidKinds := [.data, .pinned], laidTests := true, laidLooks := .later }
def GlyphNamesUptoCardSaid : Prop := Claim7.holds Tryd.pinned (.plain (OpenSpec.upto glyphNamesSpec)) glyphNamesUptoCard

/-- THE SECOND FORM's CARD OF 'ploverlaw01.GlyphTwice'. -/
def glyphTwiceUptoCard : Claim7 := { stood := { row := glyphTwiceUptoRow, standIns := [], harness := (true, "062ce432cedc2d1b65683ebc517b7e0ae9da065d9a64cef2ca90c88ee6a7396e"), looks := false }, kinds := [], alts := [], laidByText := true, laidKinds := [.data, .pinned], laidTests := true, laidLooks := .later }
def GlyphTwiceUptoCardSaid : Prop := Claim7.holds Tryd.pinned (.plain (OpenSpec.upto glyphTwiceSpec)) glyphTwiceUptoCard
end Rows
end Go.Proofs.YtnfjhfhdiknccaaDoor
