/-
  DERIVED. GIVEN WITH THE SEED: THE CARDS: each row of YtcdfedbecgfanaaDoorRows.lean that lists a variable, with what it lists TIED to the program's text (the seventh form; the later family's looks); each row that meets fmt, with fmt's text TOLD by the authors' own Lean function (tested against real Go, not proved from fmt's source: count such statements apart). THE CARD IS WHAT COUNTS. Prove the row's statement (the work); the ties are given (YtcdfedbecgfanaaDoorTie.lean); close each card by the builder's one call (the guide's Derived/Test/ToyasCard.lean, 'card_holds'). Laid BY PROGRAM, IN A SANDBOX (cutbox-door.mjs). By AI agents, Wed Nov 11 2026. No macro, syntax, notation, axiom, sorry.
-/
import Derived.Test.YtcdfedbecgfanaaDoorRows
import GoSem.ClaimSeven
namespace Go.Proofs.YtcdfedbecgfanaaDoor
namespace Rows

/-- THE TIED CARD OF 'ploverlaw02.BencPuts'. -/
def bencPutsCard : Claim7 := { stood := { row := bencPutsRow, standIns := [], harness := (true, "a54206af111ab338df1dceee56c407d2ab69e870de5c163c946afec966bdaa06"), looks := true }, kinds := [], alts := [], laidByText := true, laidKinds := [.data, .data, .data], laidTests := true, laidLooks := .later }
def BencPutsCardSaid : Prop := Claim7.holds Tryd.pinned (.plain (OpenSpec.ofChange bencPutsSpec)) bencPutsCard

/-- THE TIED CARD OF 'ploverlaw02.BencBack'. -/
def bencBackCard : Claim7 := { stood := { row := bencBackRow, standIns := [], harness := (true, "a54206af111ab338df1dceee56c407d2ab69e870de5c163c946afec966bdaa06"), looks := true }, kinds := [], alts := [], laidByText := true, laidKinds := [.data, .data, .data], laidTests := true, laidLooks := .later }
def BencBackCardSaid : Prop := Claim7.holds Tryd.pinned (.plain (OpenSpec.ofChange bencBackSpec)) bencBackCard

/-- THE TIED CARD OF 'ploverlaw02.BencCuts'. -/
def bencCutsCard : Claim7 := { stood := { row := bencCutsRow, standIns := [], harness := (true, "a54206af111ab338df1dceee56c407d2ab69e870de5c163c946afec966bdaa06"), looks := true }, kinds := [], alts := [], laidByText := true, laidKinds := [.data, .data, .data], laidTests := true, laidLooks := .later }
def BencCutsCardSaid : Prop := Claim7.holds Tryd.pinned (.plain (OpenSpec.ofChange bencCutsSpec)) bencCutsCard

/-- THE TIED CARD OF 'ploverlaw02.BencApart'. -/
def bencApartCard : Claim7 := { stood := { row := bencApartRow, standIns := [], harness := (true, "a54206af111ab338df1dceee56c407d2ab69e870de5c163c946afec966bdaa06"), looks := true }, kinds := [], alts := [], laidByText := true, laidKinds := [.data, .data, .data], laidTests := true, laidLooks := .later }
def BencApartCardSaid : Prop := Claim7.holds Tryd.pinned (.plain (OpenSpec.ofChange bencApartSpec)) bencApartCard

/-- THE TIED CARD OF 'ploverlaw02.BencLong'. -/
def bencLongCard : Claim7 := { stood := { row := bencLongRow, standIns := [], harness := (true, "a54206af111ab338df1dceee56c407d2ab69e870de5c163c946afec966bdaa06"), looks := true }, kinds := [], alts := [], laidByText := true, laidKinds := [.data, .data, .data], laidTests := true, laidLooks := .later }
def BencLongCardSaid : Prop := Claim7.holds Tryd.pinned (.plain (OpenSpec.ofChange bencLongSpec)) bencLongCard

/-- THE TIED CARD OF 'ploverlaw02.BencTakes'. -/
def bencTakesCard : Claim7 := { stood := { row := bencTakesRow, standIns := [], harness := (true, "a54206af111ab338df1dceee56c407d2ab69e870de5c163c946afec966bdaa06"), looks := true }, kinds := [], alts := [], laidByText := true, laidKinds := [.data, .data, .data], laidTests := true, laidLooks := .later }
def BencTakesCardSaid : Prop := Claim7.holds Tryd.pinned (.plain (OpenSpec.ofChange bencTakesSpec)) bencTakesCard

/-- THE TIED CARD OF 'ploverlaw02.BencMakes'. -/
def bencMakesCard : Claim7 := { stood := { row := bencMakesRow, standIns := [], harness := (true, "a54206af111ab338df1dceee56c407d2ab69e870de5c163c946afec966bdaa06"), looks := true }, kinds := [], alts := [], laidByText := true, laidKinds := [.data, .data, .data], laidTests := true, laidLooks := .later }
def BencMakesCardSaid : Prop := Claim7.holds Tryd.pinned (.plain (OpenSpec.ofChange bencMakesSpec)) bencMakesCard

/-- THE SECOND FORM's CARD OF 'ploverlaw02.BencPuts'. -/
def bencPutsUptoCard : Claim7 := { stood := { row := bencPutsUptoRow, standIns := [], harness := (true, "a54206af111ab338df1dceee56c407d2ab69e870de5c163c946afec966bdaa06"), looks := true }, kinds := [], alts := [], laidByText := true, laidKinds := [.data, .data, .data], laidTests := true, laidLooks := .later }
def BencPutsUptoCardSaid : Prop := Claim7.holds Tryd.pinned (.plain (OpenSpec.upto bencPutsSpec)) bencPutsUptoCard

/-- THE SECOND FORM's CARD OF 'ploverlaw02.BencBack'. -/
def bencBackUptoCard : Claim7 := { stood := { row := bencBackUptoRow, standIns := [], harness := (true, "a54206af111ab338df1dceee56c407d2ab69e870de5c163c946afec966bdaa06"), looks := true }, kinds := [], alts := [], laidByText := true, laidKinds := [.data, .data, .data], laidTests := true, laidLooks := .later }
def BencBackUptoCardSaid : Prop := Claim7.holds Tryd.pinned (.plain (OpenSpec.upto bencBackSpec)) bencBackUptoCard

/-- THE SECOND FORM's CARD OF 'ploverlaw02.BencCuts'. -/
def bencCutsUptoCard : Claim7 := { stood := { row := bencCutsUptoRow, standIns := [], harness := (true, "a54206af111ab338df1dceee56c407d2ab69e870de5c163c946afec966bdaa06"), looks := true }, kinds := [], alts := [], laidByText := true, laidKinds := [.data, .data, .data], laidTests := true, laidLooks := .later }
def BencCutsUptoCardSaid : Prop := Claim7.holds Tryd.pinned (.plain (OpenSpec.upto bencCutsSpec)) bencCutsUptoCard

/-- THE SECOND FORM's CARD OF 'ploverlaw02.BencApart'. -/
def bencApartUptoCard : Claim7 := { stood := { row := bencApartUptoRow, standIns := [], harness := (true, "a54206af111ab338df1dceee56c407d2ab69e870de5c163c946afec966bdaa06"), looks := true }, kinds := [], alts := [], laidByText := true, laidKinds := [.data, .data, .data], laidTests := true, laidLooks := .later }
def BencApartUptoCardSaid : Prop := Claim7.holds Tryd.pinned (.plain (OpenSpec.upto bencApartSpec)) bencApartUptoCard

/-- THE SECOND FORM's CARD OF 'ploverlaw02.BencLong'. -/
def bencLongUptoCard : Claim7 := { stood := { row := bencLongUptoRow, standIns := [], harness := (true, "a54206af111ab338df1dceee56c407d2ab69e870de5c163c946afec966bdaa06"), looks := true }, kinds := [], alts := [], laidByText := true, laidKinds := [.data, .data, .data], laidTests := true, laidLooks := .later }
def BencLongUptoCardSaid : Prop := Claim7.holds Tryd.pinned (.plain (OpenSpec.upto bencLongSpec)) bencLongUptoCard

/-- THE SECOND FORM's CARD OF 'ploverlaw02.BencTakes'. -/
def bencTakesUptoCard : Claim7 := { stood := { row := bencTakesUptoRow, standIns := [], harness := (true, "a54206af111ab338df1dceee56c407d2ab69e870de5c163c946afec966bdaa06"), looks := true }, kinds := [], alts := [], laidByText := true, laidKinds := [.data, .data, .data], laidTests := true, laidLooks := .later }
def BencTakesUptoCardSaid : Prop := Claim7.holds Tryd.pinned (.plain (OpenSpec.upto bencTakesSpec)) bencTakesUptoCard

/-- THE SECOND FORM's CARD OF 'ploverlaw02.BencMakes'. -/
def bencMakesUptoCard : Claim7 := { stood := { row := bencMakesUptoRow, standIns := [], harness := (true, "a54206af111ab338df1dceee56c407d2ab69e870de5c163c946afec966bdaa06"), looks := true }, kinds := [], alts := [], laidByText := true, laidKinds := [.data, .data, .data], laidTests := true, laidLooks := .later }
def BencMakesUptoCardSaid : Prop := Claim7.holds Tryd.pinned (.plain (OpenSpec.upto bencMakesSpec)) bencMakesUptoCard
end Rows
end Go.Proofs.YtcdfedbecgfanaaDoor
