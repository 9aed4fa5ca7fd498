/-
  DERIVED. GIVEN WITH THE SEED: THE CARDS: each row of YtnpphdaakookcaaDoorRows.lean that lists a variable, with what it lists TIED to the program's text (the seventh form; the later family's looks); each row that meets fmt, with fmt's text TOLD by the authors' own Lean function (tested against real Go, not proved from fmt's source: count such statements apart). THE CARD IS WHAT COUNTS. Prove the row's statement (the work); the ties are given (YtnpphdaakookcaaDoorTie.lean); close each card by the builder's one call (the guide's Derived/Test/ToyasCard.lean, 'card_holds'). Laid BY PROGRAM, IN A SANDBOX (cutbox-door.mjs). By AI agents, Wed Nov 11 2026. No macro, syntax, notation, axiom, sorry.
-/
import Derived.Test.YtnpphdaakookcaaDoorRows
import GoSem.ClaimSeven
namespace Go.Proofs.YtnpphdaakookcaaDoor
namespace Rows

/-- THE TIED CARD OF 'scullingkeep.NetsGood'. -/
def netsGoodCard : Claim7 := { stood := { row := netsGoodRow, standIns := [], harness := (true, "cb9c530e0ced550777b619611ff37d65ccbc59fe6b614da88e64ebfbc7b7940d"), looks := false }, kinds := [], alts := [], laidByText := true, laidKinds := [.data, .data, .data], laidTests := true, laidLooks := .later }
def NetsGoodCardSaid : Prop := Claim7.holds Tryd.pinned (.plain (OpenSpec.ofChange netsGoodSpec)) netsGoodCard

/-- THE TIED CARD OF 'scullingtop.TopAgree'. -/
def topAgreeCard : Claim7 := { stood := { row := topAgreeRow, standIns := [], harness := (true, "cb9c530e0ced550777b619611ff37d65ccbc59fe6b614da88e64ebfbc7b7940d"), looks := false }, kinds := [], alts := [], laidByText := true, laidKinds := [.data, .data, .data], laidTests := true, laidLooks := .later }
def TopAgreeCardSaid : Prop := Claim7.holds Tryd.pinned (.plain (OpenSpec.ofChange topAgreeSpec)) topAgreeCard

/-- THE TIED CARD OF 'scullingtop.TopStays'. -/
def topStaysCard : Claim7 := { stood := { row := topStaysRow, standIns := [], harness := (true, "cb9c530e0ced550777b619611ff37d65ccbc59fe6b614da88e64ebfbc7b7940d"), looks := false }, kinds := [], alts := [], laidByText := true, laidKinds := [.data, .data, .data], laidTests := true, laidLooks := .later }
def TopStaysCardSaid : Prop := Claim7.holds Tryd.pinned (.plain (OpenSpec.ofChange topStaysSpec)) topStaysCard

/-- THE TIED CARD OF 'scullingtop.TopTold'. -/
def topToldCard : Claim7 := { stood := { row := topToldRow, standIns := [], harness := (true, "cb9c530e0ced550777b619611ff37d65ccbc59fe6b614da88e64ebfbc7b7940d"), looks := false }, kinds := [], alts := [], laidByText := true, laidKinds := [.data, .data, .data], laidTests := true, laidLooks := .later }
def TopToldCardSaid : Prop := Claim7.holds Tryd.pinned (.plain (OpenSpec.ofChange topToldSpec)) topToldCard

/-- THE TIED CARD OF 'scullingtop.TopOrder'. -/
def topOrderCard : Claim7 := { stood := { row := topOrderRow, standIns := [], harness := (true, "cb9c530e0ced550777b619611ff37d65ccbc59fe6b614da88e64ebfbc7b7940d"), looks := false }, kinds := [], alts := [], laidByText := true, laidKinds := [.data, .data, .data], laidTests := true, laidLooks := .later }
def TopOrderCardSaid : Prop := Claim7.holds Tryd.pinned (.plain (OpenSpec.ofChange topOrderSpec)) topOrderCard

/-- THE TIED CARD OF 'scullingtop.TopLeaders'. -/
def topLeadersCard : Claim7 := { stood := { row := topLeadersRow, standIns := [], harness := (true, "cb9c530e0ced550777b619611ff37d65ccbc59fe6b614da88e64ebfbc7b7940d"), looks := false }, kinds := [], alts := [], laidByText := true, laidKinds := [.data, .data, .data], laidTests := true, laidLooks := .later }
def TopLeadersCardSaid : Prop := Claim7.holds Tryd.pinned (.plain (OpenSpec.ofChange topLeadersSpec)) topLeadersCard

/-- THE TIED CARD OF 'scullingtop.TopCrash'. -/
def topCrashCard : Claim7 := { stood := { row := topCrashRow, standIns := [], harness := (true, "cb9c530e0ced550777b619611ff37d65ccbc59fe6b614da88e64ebfbc7b7940d"), looks := false }, kinds := [], alts := [], laidByText := true, laidKinds := [.data, .data, .data], laidTests := true, laidLooks := .later }
def TopCrashCardSaid : Prop := Claim7.holds Tryd.pinned (.plain (OpenSpec.ofChange topCrashSpec)) topCrashCard

/-- THE TIED CARD OF 'scullingtop.TopTwice'. -/
def topTwiceCard : Claim7 := { stood := { row := topTwiceRow, standIns := [], harness := (true, "cb9c530e0ced550777b619611ff37d65ccbc59fe6b614da88e64ebfbc7b7940d"), looks := false }, kinds := [], alts := [], laidByText := true, laidKinds := [.data, .data, .data], laidTests := true, laidLooks := .later }
def TopTwiceCardSaid : Prop := Claim7.holds Tryd.pinned (.plain (OpenSpec.ofChange topTwiceSpec)) topTwiceCard

/-- THE SECOND FORM's CARD OF 'scullingkeep.NetsGood'. -/
def netsGoodUptoCard : Claim7 := { stood := { row := netsGoodUptoRow, standIns := [], harness := (true, "cb9c530e0ced550777b619611ff37d65ccbc59fe6b614da88e64ebfbc7b7940d"), looks := false }, kinds := [], alts := [], laidByText := true, laidKinds := [.data, .data, .data], laidTests := true, laidLooks := .later }
def NetsGoodUptoCardSaid : Prop := Claim7.holds Tryd.pinned (.plain (OpenSpec.upto netsGoodSpec)) netsGoodUptoCard

/-- THE SECOND FORM's CARD OF 'scullingtop.TopAgree'. -/
def topAgreeUptoCard : Claim7 := { stood := { row := topAgreeUptoRow, standIns := [], harness := (true, "cb9c530e0ced550777b619611ff37d65ccbc59fe6b614da88e64ebfbc7b7940d"), looks := false }, kinds := [], alts := [], laidByText := true, laidKinds := [.data, .data, .data], laidTests := true, laidLooks := .later }
def TopAgreeUptoCardSaid : Prop := Claim7.holds Tryd.pinned (.plain (OpenSpec.upto topAgreeSpec)) topAgreeUptoCard

/-- THE SECOND FORM's CARD OF 'scullingtop.TopStays'. -/
def topStaysUptoCard : Claim7 := { stood := { row := topStaysUptoRow, standIns := [], harness := (true, "cb9c530e0ced550777b619611ff37d65ccbc59fe6b614da88e64ebfbc7b7940d"), looks := false }, kinds := [], alts := [], laidByText := true, laidKinds := [.data, .data, .data], laidTests := true, laidLooks := .later }
def TopStaysUptoCardSaid : Prop := Claim7.holds Tryd.pinned (.plain (OpenSpec.upto topStaysSpec)) topStaysUptoCard

/-- THE SECOND FORM's CARD OF 'scullingtop.TopTold'. -/
def topToldUptoCard : Claim7 := { stood := { row := topToldUptoRow, standIns := [], harness := (true, "cb9c530e0ced550777b619611ff37d65ccbc59fe6b614da88e64ebfbc7b7940d"), looks := false }, kinds := [], alts := [], laidByText := true, laidKinds := [.data, .data, .data], laidTests := true, laidLooks := .later }
def TopToldUptoCardSaid : Prop := Claim7.holds Tryd.pinned (.plain (OpenSpec.upto topToldSpec)) topToldUptoCard

/-- THE SECOND FORM's CARD OF 'scullingtop.TopOrder'. -/
def topOrderUptoCard : Claim7 := { stood := { row := topOrderUptoRow, standIns := [], harness := (true, "cb9c530e0ced550777b619611ff37d65ccbc59fe6b614da88e64ebfbc7b7940d"), looks := false }, kinds := [], alts := [], laidByText := true, laidKinds := [.data, .data, .data], laidTests := true, laidLooks := .later }
def TopOrderUptoCardSaid : Prop := Claim7.holds Tryd.pinned (.plain (OpenSpec.upto topOrderSpec)) topOrderUptoCard

/-- THE SECOND FORM's CARD OF 'scullingtop.TopLeaders'. -/
def topLeadersUptoCard : Claim7 := { stood := { row := topLeadersUptoRow, standIns := [], harness := (true, "cb9c530e0ced550777b619611ff37d65ccbc59fe6b614da88e64ebfbc7b7940d"), looks := false }, kinds := [], alts := [], laidByText := true, laidKinds := [.data, .data, .data], laidTests := true, laidLooks := .later }
def TopLeadersUptoCardSaid : Prop := Claim7.holds Tryd.pinned (.plain (OpenSpec.upto topLeadersSpec)) topLeadersUptoCard

/-- THE SECOND FORM's CARD OF 'scullingtop.TopCrash'. -/
def topCrashUptoCard : Claim7 := { stood := { row := topCrashUptoRow, standIns := [], harness := (true, "cb9c530e0ced550777b619611ff37d65ccbc59fe6b614da88e64ebfbc7b7940d"), looks := false }, kinds := [], alts := [], laidByText := true, laidKinds := [.data, .data, .data], laidTests := true, laidLooks := .later }
def TopCrashUptoCardSaid : Prop := Claim7.holds Tryd.pinned (.plain (OpenSpec.upto topCrashSpec)) topCrashUptoCard

/-- THE SECOND FORM's CARD OF 'scullingtop.TopTwice'. -/
def topTwiceUptoCard : Claim7 := { stood := { row := topTwiceUptoRow, standIns := [], harness := (true, "cb9c530e0ced550777b619611ff37d65ccbc59fe6b614da88e64ebfbc7b7940d"), looks := false }, kinds := [], alts := [], laidByText := true, laidKinds := [.data, .data, .data], laidTests := true, laidLooks := .later }
def TopTwiceUptoCardSaid : Prop := Claim7.holds Tryd.pinned (.plain (OpenSpec.upto topTwiceSpec)) topTwiceUptoCard
end Rows
end Go.Proofs.YtnpphdaakookcaaDoor
