/-
  DERIVED. GIVEN WITH THE SEED: THE CARDS: each row of YtfpiembhlgcelaaDoorRows.lean that lists a variable, with what it lists TIED to the program's text (the seventh form; the later family's looks); each row that meets fmt, with fmt's text TOLD by the authors' own Lean function (tested against real Go, not proved from fmt's source: count such statements apart). THE CARD IS WHAT COUNTS. Prove the row's statement (the work); the ties are given (YtfpiembhlgcelaaDoorTie.lean); close each card by the builder's one call (the guide's Derived/Test/ToyasCard.lean, 'card_holds'). Laid BY PROGRAM, IN A SANDBOX (cutbox-door.mjs). By AI agents, Wed Nov 11 2026. No macro, syntax, notation, axiom, sorry.
-/
import Derived.Test.YtfpiembhlgcelaaDoorRows
import GoSem.ClaimSeven
namespace Go.Proofs.YtfpiembhlgcelaaDoor
namespace Rows

/-- THE TIED CARD OF 'scullingkeep.EntriesBack'. -/
def entriesBackCard : Claim7 := { stood := { row := entriesBackRow, standIns := [], harness := (true, "f32bc230f82b291925f92e015f3c5a75280f4ef8b3c39aec21f3cf151130ccc5"), looks := false }, kinds := [], alts := [], laidByText := true, laidKinds := [.data, .data, .data], laidTests := true, laidLooks := .later }
def EntriesBackCardSaid : Prop := Claim7.holds Tryd.pinned (.plain (OpenSpec.ofChange entriesBackSpec)) entriesBackCard

/-- THE TIED CARD OF 'scullingkeep.SectorsBack'. -/
def sectorsBackCard : Claim7 := { stood := { row := sectorsBackRow, standIns := [], harness := (true, "f32bc230f82b291925f92e015f3c5a75280f4ef8b3c39aec21f3cf151130ccc5"), looks := false }, kinds := [], alts := [], laidByText := true, laidKinds := [.data, .data, .data], laidTests := true, laidLooks := .later }
def SectorsBackCardSaid : Prop := Claim7.holds Tryd.pinned (.plain (OpenSpec.ofChange sectorsBackSpec)) sectorsBackCard

/-- THE TIED CARD OF 'scullingkeep.PlaysOnce'. -/
def playsOnceCard : Claim7 := { stood := { row := playsOnceRow, standIns := [], harness := (true, "f32bc230f82b291925f92e015f3c5a75280f4ef8b3c39aec21f3cf151130ccc5"), looks := false }, kinds := [], alts := [], laidByText := true, laidKinds := [.data, .data, .data], laidTests := true, laidLooks := .later }
def PlaysOnceCardSaid : Prop := Claim7.holds Tryd.pinned (.plain (OpenSpec.ofChange playsOnceSpec)) playsOnceCard

/-- THE TIED CARD OF 'scullingkeep.SlotsSpoilt'. -/
def slotsSpoiltCard : Claim7 := { stood := { row := slotsSpoiltRow, standIns := [], harness := (true, "f32bc230f82b291925f92e015f3c5a75280f4ef8b3c39aec21f3cf151130ccc5"), looks := false }, kinds := [], alts := [], laidByText := true, laidKinds := [.data, .data, .data], laidTests := true, laidLooks := .later }
def SlotsSpoiltCardSaid : Prop := Claim7.holds Tryd.pinned (.plain (OpenSpec.ofChange slotsSpoiltSpec)) slotsSpoiltCard

/-- THE TIED CARD OF 'scullingkeep.SlotsTorn'. -/
def slotsTornCard : Claim7 := { stood := { row := slotsTornRow, standIns := [], harness := (true, "f32bc230f82b291925f92e015f3c5a75280f4ef8b3c39aec21f3cf151130ccc5"), looks := false }, kinds := [], alts := [], laidByText := true, laidKinds := [.data, .data, .data], laidTests := true, laidLooks := .later }
def SlotsTornCardSaid : Prop := Claim7.holds Tryd.pinned (.plain (OpenSpec.ofChange slotsTornSpec)) slotsTornCard

/-- THE TIED CARD OF 'scullingkeep.LeadersLead'. -/
def leadersLeadCard : Claim7 := { stood := { row := leadersLeadRow, standIns := [], harness := (true, "f32bc230f82b291925f92e015f3c5a75280f4ef8b3c39aec21f3cf151130ccc5"), looks := false }, kinds := [], alts := [], laidByText := true, laidKinds := [.data, .data, .data], laidTests := true, laidLooks := .later }
def LeadersLeadCardSaid : Prop := Claim7.holds Tryd.pinned (.plain (OpenSpec.ofChange leadersLeadSpec)) leadersLeadCard

/-- THE TIED CARD OF 'scullingkeep.ViewsBegin'. -/
def viewsBeginCard : Claim7 := { stood := { row := viewsBeginRow, standIns := [], harness := (true, "f32bc230f82b291925f92e015f3c5a75280f4ef8b3c39aec21f3cf151130ccc5"), looks := false }, kinds := [], alts := [], laidByText := true, laidKinds := [.data, .data, .data], laidTests := true, laidLooks := .later }
def ViewsBeginCardSaid : Prop := Claim7.holds Tryd.pinned (.plain (OpenSpec.ofChange viewsBeginSpec)) viewsBeginCard

/-- THE TIED CARD OF 'scullingkeep.NetsGood'. -/
def netsGoodCard : Claim7 := { stood := { row := netsGoodRow, standIns := [], harness := (true, "f32bc230f82b291925f92e015f3c5a75280f4ef8b3c39aec21f3cf151130ccc5"), looks := false }, kinds := [], alts := [], laidByText := true, laidKinds := [.data, .data, .data], laidTests := true, laidLooks := .later }
def NetsGoodCardSaid : Prop := Claim7.holds Tryd.pinned (.plain (OpenSpec.ofChange netsGoodSpec)) netsGoodCard

/-- THE TIED CARD OF 'scullingtop.TopAgree'. -/
def topAgreeCard : Claim7 := { stood := { row := topAgreeRow, standIns := [], harness := (true, "f32bc230f82b291925f92e015f3c5a75280f4ef8b3c39aec21f3cf151130ccc5"), looks := false }, kinds := [], alts := [], laidByText := true, laidKinds := [.data, .data, .data], laidTests := true, laidLooks := .later }
def TopAgreeCardSaid : Prop := Claim7.holds Tryd.pinned (.plain (OpenSpec.ofChange topAgreeSpec)) topAgreeCard

/-- THE TIED CARD OF 'scullingtop.TopStays'. -/
def topStaysCard : Claim7 := { stood := { row := topStaysRow, standIns := [], harness := (true, "f32bc230f82b291925f92e015f3c5a75280f4ef8b3c39aec21f3cf151130ccc5"), looks := false }, kinds := [], alts := [], laidByText := true, laidKinds := [.data, .data, .data], laidTests := true, laidLooks := .later }
def TopStaysCardSaid : Prop := Claim7.holds Tryd.pinned (.plain (OpenSpec.ofChange topStaysSpec)) topStaysCard

/-- THE TIED CARD OF 'scullingtop.TopTold'. -/
def topToldCard : Claim7 := { stood := { row := topToldRow, standIns := [], harness := (true, "f32bc230f82b291925f92e015f3c5a75280f4ef8b3c39aec21f3cf151130ccc5"), looks := false }, kinds := [], alts := [], laidByText := true, laidKinds := [.data, .data, .data], laidTests := true, laidLooks := .later }
def TopToldCardSaid : Prop := Claim7.holds Tryd.pinned (.plain (OpenSpec.ofChange topToldSpec)) topToldCard

/-- THE TIED CARD OF 'scullingtop.TopOrder'. -/
def topOrderCard : Claim7 := { stood := { row := topOrderRow, standIns := [], harness := (true, "f32bc230f82b291925f92e015f3c5a75280f4ef8b3c39aec21f3cf151130ccc5"), looks := false }, kinds := [], alts := [], laidByText := true, laidKinds := [.data, .data, .data], laidTests := true, laidLooks := .later }
def TopOrderCardSaid : Prop := Claim7.holds Tryd.pinned (.plain (OpenSpec.ofChange topOrderSpec)) topOrderCard

/-- THE TIED CARD OF 'scullingtop.TopLeaders'. -/
def topLeadersCard : Claim7 := { stood := { row := topLeadersRow, standIns := [], harness := (true, "f32bc230f82b291925f92e015f3c5a75280f4ef8b3c39aec21f3cf151130ccc5"), looks := false }, kinds := [], alts := [], laidByText := true, laidKinds := [.data, .data, .data], laidTests := true, laidLooks := .later }
def TopLeadersCardSaid : Prop := Claim7.holds Tryd.pinned (.plain (OpenSpec.ofChange topLeadersSpec)) topLeadersCard

/-- THE TIED CARD OF 'scullingtop.TopCrash'. -/
def topCrashCard : Claim7 := { stood := { row := topCrashRow, standIns := [], harness := (true, "f32bc230f82b291925f92e015f3c5a75280f4ef8b3c39aec21f3cf151130ccc5"), looks := false }, kinds := [], alts := [], laidByText := true, laidKinds := [.data, .data, .data], laidTests := true, laidLooks := .later }
def TopCrashCardSaid : Prop := Claim7.holds Tryd.pinned (.plain (OpenSpec.ofChange topCrashSpec)) topCrashCard

/-- THE TIED CARD OF 'scullingtop.TopTwice'. -/
def topTwiceCard : Claim7 := { stood := { row := topTwiceRow, standIns := [], harness := (true, "f32bc230f82b291925f92e015f3c5a75280f4ef8b3c39aec21f3cf151130ccc5"), looks := false }, kinds := [], alts := [], laidByText := true, laidKinds := [.data, .data, .data], laidTests := true, laidLooks := .later }
def TopTwiceCardSaid : Prop := Claim7.holds Tryd.pinned (.plain (OpenSpec.ofChange topTwiceSpec)) topTwiceCard

/-- THE SECOND FORM's CARD OF 'scullingkeep.EntriesBack'. -/
def entriesBackUptoCard : Claim7 := { stood := { row := entriesBackUptoRow, standIns := [], harness := (true, "f32bc230f82b291925f92e015f3c5a75280f4ef8b3c39aec21f3cf151130ccc5"), looks := false }, kinds := [], alts := [], laidByText := true, laidKinds := [.data, .data, .data], laidTests := true, laidLooks := .later }
def EntriesBackUptoCardSaid : Prop := Claim7.holds Tryd.pinned (.plain (OpenSpec.upto entriesBackSpec)) entriesBackUptoCard

/-- THE SECOND FORM's CARD OF 'scullingkeep.SectorsBack'. -/
def sectorsBackUptoCard : Claim7 := { stood := { row := sectorsBackUptoRow, standIns := [], harness := (true, "f32bc230f82b291925f92e015f3c5a75280f4ef8b3c39aec21f3cf151130ccc5"), looks := false }, kinds := [], alts := [], laidByText := true, laidKinds := [.data, .data, .data], laidTests := true, laidLooks := .later }
def SectorsBackUptoCardSaid : Prop := Claim7.holds Tryd.pinned (.plain (OpenSpec.upto sectorsBackSpec)) sectorsBackUptoCard

/-- THE SECOND FORM's CARD OF 'scullingkeep.PlaysOnce'. -/
def playsOnceUptoCard : Claim7 := { stood := { row := playsOnceUptoRow, standIns := [], harness := (true, "f32bc230f82b291925f92e015f3c5a75280f4ef8b3c39aec21f3cf151130ccc5"), looks := false }, kinds := [], alts := [], laidByText := true, laidKinds := [.data, .data, .data], laidTests := true, laidLooks := .later }
def PlaysOnceUptoCardSaid : Prop := Claim7.holds Tryd.pinned (.plain (OpenSpec.upto playsOnceSpec)) playsOnceUptoCard

/-- THE SECOND FORM's CARD OF 'scullingkeep.SlotsSpoilt'. -/
def slotsSpoiltUptoCard : Claim7 := { stood := { row := slotsSpoiltUptoRow, standIns := [], harness := (true, "f32bc230f82b291925f92e015f3c5a75280f4ef8b3c39aec21f3cf151130ccc5"), looks := false }, kinds := [], alts := [], laidByText := true, laidKinds := [.data, .data, .data], laidTests := true, laidLooks := .later }
def SlotsSpoiltUptoCardSaid : Prop := Claim7.holds Tryd.pinned (.plain (OpenSpec.upto slotsSpoiltSpec)) slotsSpoiltUptoCard

/-- THE SECOND FORM's CARD OF 'scullingkeep.SlotsTorn'. -/
def slotsTornUptoCard : Claim7 := { stood := { row := slotsTornUptoRow, standIns := [], harness := (true, "f32bc230f82b291925f92e015f3c5a75280f4ef8b3c39aec21f3cf151130ccc5"), looks := false }, kinds := [], alts := [], laidByText := true, laidKinds := [.data, .data, .data], laidTests := true, laidLooks := .later }
def SlotsTornUptoCardSaid : Prop := Claim7.holds Tryd.pinned (.plain (OpenSpec.upto slotsTornSpec)) slotsTornUptoCard

/-- THE SECOND FORM's CARD OF 'scullingkeep.LeadersLead'. -/
def leadersLeadUptoCard : Claim7 := { stood := { row := leadersLeadUptoRow, standIns := [], harness := (true, "f32bc230f82b291925f92e015f3c5a75280f4ef8b3c39aec21f3cf151130ccc5"), looks := false }, kinds := [], alts := [], laidByText := true, laidKinds := [.data, .data, .data], laidTests := true, laidLooks := .later }
def LeadersLeadUptoCardSaid : Prop := Claim7.holds Tryd.pinned (.plain (OpenSpec.upto leadersLeadSpec)) leadersLeadUptoCard

/-- THE SECOND FORM's CARD OF 'scullingkeep.ViewsBegin'. -/
def viewsBeginUptoCard : Claim7 := { stood := { row := viewsBeginUptoRow, standIns := [], harness := (true, "f32bc230f82b291925f92e015f3c5a75280f4ef8b3c39aec21f3cf151130ccc5"), looks := false }, kinds := [], alts := [], laidByText := true, laidKinds := [.data, .data, .data], laidTests := true, laidLooks := .later }
def ViewsBeginUptoCardSaid : Prop := Claim7.holds Tryd.pinned (.plain (OpenSpec.upto viewsBeginSpec)) viewsBeginUptoCard

/-- THE SECOND FORM's CARD OF 'scullingkeep.NetsGood'. -/
def netsGoodUptoCard : Claim7 := { stood := { row := netsGoodUptoRow, standIns := [], harness := (true, "f32bc230f82b291925f92e015f3c5a75280f4ef8b3c39aec21f3cf151130ccc5"), looks := false }, kinds := [], alts := [], laidByText := true, laidKinds := [.data, .data, .data], laidTests := true, laidLooks := .later }
def NetsGoodUptoCardSaid : Prop := Claim7.holds Tryd.pinned (.plain (OpenSpec.upto netsGoodSpec)) netsGoodUptoCard

/-- THE SECOND FORM's CARD OF 'scullingtop.TopAgree'. -/
def topAgreeUptoCard : Claim7 := { stood := { row := topAgreeUptoRow, standIns := [], harness := (true, "f32bc230f82b291925f92e015f3c5a75280f4ef8b3c39aec21f3cf151130ccc5"), looks := false }, kinds := [], alts := [], laidByText := true, laidKinds := [.data, .data, .data], laidTests := true, laidLooks := .later }
def TopAgreeUptoCardSaid : Prop := Claim7.holds Tryd.pinned (.plain (OpenSpec.upto topAgreeSpec)) topAgreeUptoCard

/-- THE SECOND FORM's CARD OF 'scullingtop.TopStays'. -/
def topStaysUptoCard : Claim7 := { stood := { row := topStaysUptoRow, standIns := [], harness := (true, "f32bc230f82b291925f92e015f3c5a75280f4ef8b3c39aec21f3cf151130ccc5"), looks := false }, kinds := [], alts := [], laidByText := true, laidKinds := [.data, .data, .data], laidTests := true, laidLooks := .later }
def TopStaysUptoCardSaid : Prop := Claim7.holds Tryd.pinned (.plain (OpenSpec.upto topStaysSpec)) topStaysUptoCard

/-- THE SECOND FORM's CARD OF 'scullingtop.TopTold'. -/
def topToldUptoCard : Claim7 := { stood := { row := topToldUptoRow, standIns := [], harness := (true, "f32bc230f82b291925f92e015f3c5a75280f4ef8b3c39aec21f3cf151130ccc5"), looks := false }, kinds := [], alts := [], laidByText := true, laidKinds := [.data, .data, .data], laidTests := true, laidLooks := .later }
def TopToldUptoCardSaid : Prop := Claim7.holds Tryd.pinned (.plain (OpenSpec.upto topToldSpec)) topToldUptoCard

/-- THE SECOND FORM's CARD OF 'scullingtop.TopOrder'. -/
def topOrderUptoCard : Claim7 := { stood := { row := topOrderUptoRow, standIns := [], harness := (true, "f32bc230f82b291925f92e015f3c5a75280f4ef8b3c39aec21f3cf151130ccc5"), looks := false }, kinds := [], alts := [], laidByText := true, laidKinds := [.data, .data, .data], laidTests := true, laidLooks := .later }
def TopOrderUptoCardSaid : Prop := Claim7.holds Tryd.pinned (.plain (OpenSpec.upto topOrderSpec)) topOrderUptoCard

/-- THE SECOND FORM's CARD OF 'scullingtop.TopLeaders'. -/
def topLeadersUptoCard : Claim7 := { stood := { row := topLeadersUptoRow, standIns := [], harness := (true, "f32bc230f82b291925f92e015f3c5a75280f4ef8b3c39aec21f3cf151130ccc5"), looks := false }, kinds := [], alts := [], laidByText := true, laidKinds := [.data, .data, .data], laidTests := true, laidLooks := .later }
def TopLeadersUptoCardSaid : Prop := Claim7.holds Tryd.pinned (.plain (OpenSpec.upto topLeadersSpec)) topLeadersUptoCard

/-- THE SECOND FORM's CARD OF 'scullingtop.TopCrash'. -/
def topCrashUptoCard : Claim7 := { stood := { row := topCrashUptoRow, standIns := [], harness := (true, "f32bc230f82b291925f92e015f3c5a75280f4ef8b3c39aec21f3cf151130ccc5"), looks := false }, kinds := [], alts := [], laidByText := true, laidKinds := [.data, .data, .data], laidTests := true, laidLooks := .later }
def TopCrashUptoCardSaid : Prop := Claim7.holds Tryd.pinned (.plain (OpenSpec.upto topCrashSpec)) topCrashUptoCard

/-- THE SECOND FORM's CARD OF 'scullingtop.TopTwice'. -/
def topTwiceUptoCard : Claim7 := { stood := { row := topTwiceUptoRow, standIns := [], harness := (true, "f32bc230f82b291925f92e015f3c5a75280f4ef8b3c39aec21f3cf151130ccc5"), looks := false }, kinds := [], alts := [], laidByText := true, laidKinds := [.data, .data, .data], laidTests := true, laidLooks := .later }
def TopTwiceUptoCardSaid : Prop := Claim7.holds Tryd.pinned (.plain (OpenSpec.upto topTwiceSpec)) topTwiceUptoCard
end Rows
end Go.Proofs.YtfpiembhlgcelaaDoor
