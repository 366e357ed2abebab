/-
  DERIVED. GIVEN WITH THE SEED: THE CARDS: each row of YtlggihnkhimfkaaDoorRows.lean that lists a variable, with what it lists TIED to the program's text (the seventh form; the later family's looks); each row that meets fmt, with fmt's text TOLD by the authors' own Lean function (tested against real Go, not proved from fmt's source: count such statements apart). THE CARD IS WHAT COUNTS. Prove the row's statement (the work); the ties are given (YtlggihnkhimfkaaDoorTie.lean); close each card by the builder's one call (the guide's Derived/Test/ToyasCard.lean, 'card_holds'). Laid BY PROGRAM, IN A SANDBOX (cutbox-door.mjs). By AI agents, Wed Nov 11 2026. No macro, syntax, notation, axiom, sorry.
-/
import Derived.Test.YtlggihnkhimfkaaDoorRows
import GoSem.ClaimSeven
namespace Go.Proofs.YtlggihnkhimfkaaDoor
namespace Rows

/-- THE TIED CARD OF 'ploverlaw13.PostPuts'. -/
def postPutsCard : Claim7 := { stood := { row := postPutsRow, standIns := [], harness := (true, "a00bb123b1a0d99ae21de6db1944938b2e7f7d8db954e443e29fadc2fce6880e"), looks := true }, kinds := [], alts := [], laidByText := true, laidKinds := [.data, .data, .data, .sentinel, .sentinel], laidTests := true, laidLooks := .later }
def PostPutsCardSaid : Prop := Claim7.holds Tryd.pinned (.plain (OpenSpec.ofChange postPutsSpec)) postPutsCard

/-- THE TIED CARD OF 'ploverlaw13.PostApart'. -/
def postApartCard : Claim7 := { stood := { row := postApartRow, standIns := [], harness := (true, "a00bb123b1a0d99ae21de6db1944938b2e7f7d8db954e443e29fadc2fce6880e"), looks := true }, kinds := [], alts := [], laidByText := true, laidKinds := [.data, .data, .data, .sentinel, .sentinel], laidTests := true, laidLooks := .later }
def PostApartCardSaid : Prop := Claim7.holds Tryd.pinned (.plain (OpenSpec.ofChange postApartSpec)) postApartCard

/-- THE TIED CARD OF 'ploverlaw13.PostSpoilt'. -/
def postSpoiltCard : Claim7 := { stood := { row := postSpoiltRow, standIns := [], harness := (true, "a00bb123b1a0d99ae21de6db1944938b2e7f7d8db954e443e29fadc2fce6880e"), looks := true }, kinds := [], alts := [], laidByText := true, laidKinds := [.data, .data, .data, .sentinel, .sentinel], laidTests := true, laidLooks := .later }
def PostSpoiltCardSaid : Prop := Claim7.holds Tryd.pinned (.plain (OpenSpec.ofChange postSpoiltSpec)) postSpoiltCard

/-- THE TIED CARD OF 'ploverlaw13.PostLong'. -/
def postLongCard : Claim7 := { stood := { row := postLongRow, standIns := [], harness := (true, "a00bb123b1a0d99ae21de6db1944938b2e7f7d8db954e443e29fadc2fce6880e"), looks := true }, kinds := [], alts := [], laidByText := true, laidKinds := [.data, .data, .data, .sentinel, .sentinel], laidTests := true, laidLooks := .later }
def PostLongCardSaid : Prop := Claim7.holds Tryd.pinned (.plain (OpenSpec.ofChange postLongSpec)) postLongCard

/-- THE SECOND FORM's CARD OF 'ploverlaw13.PostPuts'. -/
def postPutsUptoCard : Claim7 := { stood := { row := postPutsUptoRow, standIns := [], harness := (true, "a00bb123b1a0d99ae21de6db1944938b2e7f7d8db954e443e29fadc2fce6880e"), looks := true }, kinds := [], alts := [], laidByText := true, laidKinds := [.data, .data, .data, .sentinel, .sentinel], laidTests := true, laidLooks := .later }
def PostPutsUptoCardSaid : Prop := Claim7.holds Tryd.pinned (.plain (OpenSpec.upto postPutsSpec)) postPutsUptoCard

/-- THE SECOND FORM's CARD OF 'ploverlaw13.PostApart'. -/
def postApartUptoCard : Claim7 := { stood := { row := postApartUptoRow, standIns := [], harness := (true, "a00bb123b1a0d99ae21de6db1944938b2e7f7d8db954e443e29fadc2fce6880e"), looks := true }, kinds := [], alts := [], laidByText := true, laidKinds := [.data, .data, .data, .sentinel, .sentinel], laidTests := true, laidLooks := .later }
def PostApartUptoCardSaid : Prop := Claim7.holds Tryd.pinned (.plain (OpenSpec.upto postApartSpec)) postApartUptoCard

/-- THE SECOND FORM's CARD OF 'ploverlaw13.PostSpoilt'. -/
def postSpoiltUptoCard : Claim7 := { stood := { row := postSpoiltUptoRow, standIns := [], harness := (true, "a00bb123b1a0d99ae21de6db1944938b2e7f7d8db954e443e29fadc2fce6880e"), looks := true }, kinds := [], alts := [], laidByText := true, laidKinds := [.data, .data, .data, .sentinel, .sentinel], laidTests := true, laidLooks := .later }
def PostSpoiltUptoCardSaid : Prop := Claim7.holds Tryd.pinned (.plain (OpenSpec.upto postSpoiltSpec)) postSpoiltUptoCard

/-- THE SECOND FORM's CARD OF 'ploverlaw13.PostLong'. -/
def postLongUptoCard : Claim7 := { stood := { row := postLongUptoRow, standIns := [], harness := (true, "a00bb123b1a0d99ae21de6db1944938b2e7f7d8db954e443e29fadc2fce6880e"), looks := true }, kinds := [], alts := [], laidByText := true, laidKinds := [.data, .data, .data, .sentinel, .sentinel], laidTests := true, laidLooks := .later }
def PostLongUptoCardSaid : Prop := Claim7.holds Tryd.pinned (.plain (OpenSpec.upto postLongSpec)) postLongUptoCard
end Rows
end Go.Proofs.YtlggihnkhimfkaaDoor
