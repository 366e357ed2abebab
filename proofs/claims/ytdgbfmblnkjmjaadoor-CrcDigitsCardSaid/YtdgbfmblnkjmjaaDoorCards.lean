/-
  DERIVED. GIVEN WITH THE SEED: THE CARDS: each row of YtdgbfmblnkjmjaaDoorRows.lean that lists a variable, with what it lists TIED to the program's text (the seventh form; the later family's looks); each row that meets fmt, with fmt's text TOLD by the authors' own Lean function (tested against real Go, not proved from fmt's source: count such statements apart). THE CARD IS WHAT COUNTS. Prove the row's statement (the work); the ties are given (YtdgbfmblnkjmjaaDoorTie.lean); close each card by the builder's one call (the guide's Derived/Test/ToyasCard.lean, 'card_holds'). Laid BY PROGRAM, IN A SANDBOX (cutbox-door.mjs). By AI agents, Wed Nov 11 2026. No macro, syntax, notation, axiom, sorry.
-/
import Derived.Test.YtdgbfmblnkjmjaaDoorRows
import GoSem.ClaimSeven
namespace Go.Proofs.YtdgbfmblnkjmjaaDoor
namespace Rows

/-- THE TIED CARD OF 'ploverlaw03.CrcSpots'. -/
def crcSpotsCard : Claim7 := { stood := { row := crcSpotsRow, standIns := [], harness := (true, "9d4951ff5fa18a7a34cff9c4ab3c500fea4c68300d7e8ed4849fbc807a71b6f1"), looks := true }, kinds := [], alts := [], laidByText := true, laidKinds := [.data, .data, .data], laidTests := true, laidLooks := .later }
def CrcSpotsCardSaid : Prop := Claim7.holds Tryd.pinned (.plain (OpenSpec.ofChange crcSpotsSpec)) crcSpotsCard

/-- THE TIED CARD OF 'ploverlaw03.CrcApart'. -/
def crcApartCard : Claim7 := { stood := { row := crcApartRow, standIns := [], harness := (true, "9d4951ff5fa18a7a34cff9c4ab3c500fea4c68300d7e8ed4849fbc807a71b6f1"), looks := true }, kinds := [], alts := [], laidByText := true, laidKinds := [.data, .data, .data], laidTests := true, laidLooks := .later }
def CrcApartCardSaid : Prop := Claim7.holds Tryd.pinned (.plain (OpenSpec.ofChange crcApartSpec)) crcApartCard

/-- THE TIED CARD OF 'ploverlaw03.CrcDigits'. -/
def crcDigitsCard : Claim7 := { stood := { row := crcDigitsRow, standIns := [], harness := (true, "9d4951ff5fa18a7a34cff9c4ab3c500fea4c68300d7e8ed4849fbc807a71b6f1"), looks := true }, kinds := [], alts := [], laidByText := true, laidKinds := [.data, .data, .data, .sentinel, .sentinel], laidTests := true, laidLooks := .later }
def CrcDigitsCardSaid : Prop := Claim7.holds Tryd.pinned (.plain (OpenSpec.ofChange crcDigitsSpec)) crcDigitsCard

/-- THE TIED CARD OF 'ploverlaw03.CrcOrder'. -/
def crcOrderCard : Claim7 := { stood := { row := crcOrderRow, standIns := [], harness := (true, "9d4951ff5fa18a7a34cff9c4ab3c500fea4c68300d7e8ed4849fbc807a71b6f1"), looks := true }, kinds := [], alts := [], laidByText := true, laidKinds := [.data, .data, .data, .sentinel, .sentinel], laidTests := true, laidLooks := .later }
def CrcOrderCardSaid : Prop := Claim7.holds Tryd.pinned (.plain (OpenSpec.ofChange crcOrderSpec)) crcOrderCard

/-- THE SECOND FORM's CARD OF 'ploverlaw03.CrcSpots'. -/
def crcSpotsUptoCard : Claim7 := { stood := { row := crcSpotsUptoRow, standIns := [], harness := (true, "9d4951ff5fa18a7a34cff9c4ab3c500fea4c68300d7e8ed4849fbc807a71b6f1"), looks := true }, kinds := [], alts := [], laidByText := true, laidKinds := [.data, .data, .data], laidTests := true, laidLooks := .later }
def CrcSpotsUptoCardSaid : Prop := Claim7.holds Tryd.pinned (.plain (OpenSpec.upto crcSpotsSpec)) crcSpotsUptoCard

/-- THE SECOND FORM's CARD OF 'ploverlaw03.CrcApart'. -/
def crcApartUptoCard : Claim7 := { stood := { row := crcApartUptoRow, standIns := [], harness := (true, "9d4951ff5fa18a7a34cff9c4ab3c500fea4c68300d7e8ed4849fbc807a71b6f1"), looks := true }, kinds := [], alts := [], laidByText := true, laidKinds := [.data, .data, .data], laidTests := true, laidLooks := .later }
def CrcApartUptoCardSaid : Prop := Claim7.holds Tryd.pinned (.plain (OpenSpec.upto crcApartSpec)) crcApartUptoCard

/-- THE SECOND FORM's CARD OF 'ploverlaw03.CrcDigits'. -/
def crcDigitsUptoCard : Claim7 := { stood := { row := crcDigitsUptoRow, standIns := [], harness := (true, "9d4951ff5fa18a7a34cff9c4ab3c500fea4c68300d7e8ed4849fbc807a71b6f1"), looks := true }, kinds := [], alts := [], laidByText := true, laidKinds := [.data, .data, .data, .sentinel, .sentinel], laidTests := true, laidLooks := .later }
def CrcDigitsUptoCardSaid : Prop := Claim7.holds Tryd.pinned (.plain (OpenSpec.upto crcDigitsSpec)) crcDigitsUptoCard

/-- THE SECOND FORM's CARD OF 'ploverlaw03.CrcOrder'. -/
def crcOrderUptoCard : Claim7 := { stood := { row := crcOrderUptoRow, standIns := [], harness := (true, "9d4951ff5fa18a7a34cff9c4ab3c500fea4c68300d7e8ed4849fbc807a71b6f1"), looks := true }, kinds := [], alts := [], laidByText := true, laidKinds := [.data, .data, .data, .sentinel, .sentinel], laidTests := true, laidLooks := .later }
def CrcOrderUptoCardSaid : Prop := Claim7.holds Tryd.pinned (.plain (OpenSpec.upto crcOrderSpec)) crcOrderUptoCard
end Rows
end Go.Proofs.YtdgbfmblnkjmjaaDoor
