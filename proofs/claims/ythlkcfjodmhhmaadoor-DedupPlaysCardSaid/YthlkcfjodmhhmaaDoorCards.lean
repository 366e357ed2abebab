/-
  DERIVED. GIVEN WITH THE SEED: THE CARDS: each row of YthlkcfjodmhhmaaDoorRows.lean that lists a variable, with what it lists TIED to the program's text (the seventh form; the later family's looks); each row that meets fmt, with fmt's text TOLD by the authors' own Lean function (tested against real Go, not proved from fmt's source: count such statements apart). THE CARD IS WHAT COUNTS. Prove the row's statement (the work); the ties are given (YthlkcfjodmhhmaaDoorTie.lean); close each card by the builder's one call (the guide's Derived/Test/ToyasCard.lean, 'card_holds'). Laid BY PROGRAM, IN A SANDBOX (cutbox-door.mjs). By AI agents, Wed Nov 11 2026. No macro, syntax, notation, axiom, sorry.
-/
import Derived.Test.YthlkcfjodmhhmaaDoorRows
import GoSem.ClaimSeven
namespace Go.Proofs.YthlkcfjodmhhmaaDoor
namespace Rows

/-- THE TIED CARD OF 'ploverlaw09.DedupOnce'. -/
def dedupOnceCard : Claim7 := { stood := { row := dedupOnceRow, standIns := [], harness := (true, "c689137f027a9475285b9224c927dfd6d749c324b84f57a4e4063558440d93cc"), looks := true }, kinds := [], alts := [], laidByText := true, laidKinds := [.data, .data, .data], laidTests := true, laidLooks := .later }
def DedupOnceCardSaid : Prop := Claim7.holds Tryd.pinned (.plain (OpenSpec.ofChange dedupOnceSpec)) dedupOnceCard

/-- THE TIED CARD OF 'ploverlaw09.DedupApart'. -/
def dedupApartCard : Claim7 := { stood := { row := dedupApartRow, standIns := [], harness := (true, "c689137f027a9475285b9224c927dfd6d749c324b84f57a4e4063558440d93cc"), looks := true }, kinds := [], alts := [], laidByText := true, laidKinds := [.data, .data, .data], laidTests := true, laidLooks := .later }
def DedupApartCardSaid : Prop := Claim7.holds Tryd.pinned (.plain (OpenSpec.ofChange dedupApartSpec)) dedupApartCard

/-- THE TIED CARD OF 'ploverlaw09.DedupNobody'. -/
def dedupNobodyCard : Claim7 := { stood := { row := dedupNobodyRow, standIns := [], harness := (true, "c689137f027a9475285b9224c927dfd6d749c324b84f57a4e4063558440d93cc"), looks := true }, kinds := [], alts := [], laidByText := true, laidKinds := [.data, .data, .data], laidTests := true, laidLooks := .later }
def DedupNobodyCardSaid : Prop := Claim7.holds Tryd.pinned (.plain (OpenSpec.ofChange dedupNobodySpec)) dedupNobodyCard

/-- THE TIED CARD OF 'ploverlaw09.DedupPlays'. -/
def dedupPlaysCard : Claim7 := { stood := { row := dedupPlaysRow, standIns := [], harness := (true, "c689137f027a9475285b9224c927dfd6d749c324b84f57a4e4063558440d93cc"), looks := true }, kinds := [], alts := [], laidByText := true, laidKinds := [.data, .data, .data], laidTests := true, laidLooks := .later }
def DedupPlaysCardSaid : Prop := Claim7.holds Tryd.pinned (.plain (OpenSpec.ofChange dedupPlaysSpec)) dedupPlaysCard

/-- THE TIED CARD OF 'ploverlaw09.DedupReads'. -/
def dedupReadsCard : Claim7 := { stood := { row := dedupReadsRow, standIns := [], harness := (true, "c689137f027a9475285b9224c927dfd6d749c324b84f57a4e4063558440d93cc"), looks := true }, kinds := [], alts := [], laidByText := true, laidKinds := [.data, .data, .data], laidTests := true, laidLooks := .later }
def DedupReadsCardSaid : Prop := Claim7.holds Tryd.pinned (.plain (OpenSpec.ofChange dedupReadsSpec)) dedupReadsCard

/-- THE TIED CARD OF 'ploverlaw09.DedupBack'. -/
def dedupBackCard : Claim7 := { stood := { row := dedupBackRow, standIns := [], harness := (true, "c689137f027a9475285b9224c927dfd6d749c324b84f57a4e4063558440d93cc"), looks := true }, kinds := [], alts := [], laidByText := true, laidKinds := [.data, .data, .data], laidTests := true, laidLooks := .later }
def DedupBackCardSaid : Prop := Claim7.holds Tryd.pinned (.plain (OpenSpec.ofChange dedupBackSpec)) dedupBackCard

/-- THE SECOND FORM's CARD OF 'ploverlaw09.DedupOnce'. -/
def dedupOnceUptoCard : Claim7 := { stood := { row := dedupOnceUptoRow, standIns := [], harness := (true, "c689137f027a9475285b9224c927dfd6d749c324b84f57a4e4063558440d93cc"), looks := true }, kinds := [], alts := [], laidByText := true, laidKinds := [.data, .data, .data], laidTests := true, laidLooks := .later }
def DedupOnceUptoCardSaid : Prop := Claim7.holds Tryd.pinned (.plain (OpenSpec.upto dedupOnceSpec)) dedupOnceUptoCard

/-- THE SECOND FORM's CARD OF 'ploverlaw09.DedupApart'. -/
def dedupApartUptoCard : Claim7 := { stood := { row := dedupApartUptoRow, standIns := [], harness := (true, "c689137f027a9475285b9224c927dfd6d749c324b84f57a4e4063558440d93cc"), looks := true }, kinds := [], alts := [], laidByText := true, laidKinds := [.data, .data, .data], laidTests := true, laidLooks := .later }
def DedupApartUptoCardSaid : Prop := Claim7.holds Tryd.pinned (.plain (OpenSpec.upto dedupApartSpec)) dedupApartUptoCard

/-- THE SECOND FORM's CARD OF 'ploverlaw09.DedupNobody'. -/
def dedupNobodyUptoCard : Claim7 := { stood := { row := dedupNobodyUptoRow, standIns := [], harness := (true, "c689137f027a9475285b9224c927dfd6d749c324b84f57a4e4063558440d93cc"), looks := true }, kinds := [], alts := [], laidByText := true, laidKinds := [.data, .data, .data], laidTests := true, laidLooks := .later }
def DedupNobodyUptoCardSaid : Prop := Claim7.holds Tryd.pinned (.plain (OpenSpec.upto dedupNobodySpec)) dedupNobodyUptoCard

/-- THE SECOND FORM's CARD OF 'ploverlaw09.DedupPlays'. -/
def dedupPlaysUptoCard : Claim7 := { stood := { row := dedupPlaysUptoRow, standIns := [], harness := (true, "c689137f027a9475285b9224c927dfd6d749c324b84f57a4e4063558440d93cc"), looks := true }, kinds := [], alts := [], laidByText := true, laidKinds := [.data, .data, .data], laidTests := true, laidLooks := .later }
def DedupPlaysUptoCardSaid : Prop := Claim7.holds Tryd.pinned (.plain (OpenSpec.upto dedupPlaysSpec)) dedupPlaysUptoCard

/-- THE SECOND FORM's CARD OF 'ploverlaw09.DedupReads'. -/
def dedupReadsUptoCard : Claim7 := { stood := { row := dedupReadsUptoRow, standIns := [], harness := (true, "c689137f027a9475285b9224c927dfd6d749c324b84f57a4e4063558440d93cc"), looks := true }, kinds := [], alts := [], laidByText := true, laidKinds := [.data, .data, .data], laidTests := true, laidLooks := .later }
def DedupReadsUptoCardSaid : Prop := Claim7.holds Tryd.pinned (.plain (OpenSpec.upto dedupReadsSpec)) dedupReadsUptoCard

/-- THE SECOND FORM's CARD OF 'ploverlaw09.DedupBack'. -/
def dedupBackUptoCard : Claim7 := { stood := { row := dedupBackUptoRow, standIns := [], harness := (true, "c689137f027a9475285b9224c927dfd6d749c324b84f57a4e4063558440d93cc"), looks := true }, kinds := [], alts := [], laidByText := true, laidKinds := [.data, .data, .data], laidTests := true, laidLooks := .later }
def DedupBackUptoCardSaid : Prop := Claim7.holds Tryd.pinned (.plain (OpenSpec.upto dedupBackSpec)) dedupBackUptoCard
end Rows
end Go.Proofs.YthlkcfjodmhhmaaDoor
