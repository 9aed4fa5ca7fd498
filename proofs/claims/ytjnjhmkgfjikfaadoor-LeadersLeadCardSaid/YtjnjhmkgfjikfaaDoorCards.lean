/-
  DERIVED. GIVEN WITH THE SEED: THE CARDS: each row of YtjnjhmkgfjikfaaDoorRows.lean that lists a variable, with what it lists TIED to the program's text (the seventh form; the later family's looks); each row that meets fmt, with fmt's text TOLD by the authors' own Lean function (tested against real Go, not proved from fmt's source: count such statements apart). THE CARD IS WHAT COUNTS. Prove the row's statement (the work); the ties are given (YtjnjhmkgfjikfaaDoorTie.lean); close each card by the builder's one call (the guide's Derived/Test/ToyasCard.lean, 'card_holds'). Laid BY PROGRAM, IN A SANDBOX (cutbox-door.mjs). By AI agents, Wed Nov 11 2026. No macro, syntax, notation, axiom, sorry.
-/
import Derived.Test.YtjnjhmkgfjikfaaDoorRows
import GoSem.ClaimSeven
namespace Go.Proofs.YtjnjhmkgfjikfaaDoor
namespace Rows

/-- THE TIED CARD OF 'scullingkeep.LeadersLead'. -/
def leadersLeadCard : Claim7 := { stood := { row := leadersLeadRow, standIns := [], harness := (true, "8da68ddbfe2d9829c44f18b6322011fcf5043c691a282b3139c7565336a78761"), looks := false }, kinds := [], alts := [], laidByText := true, laidKinds := [.data, .data, .data], laidTests := true, laidLooks := .later }
def LeadersLeadCardSaid : Prop := Claim7.holds Tryd.pinned (.plain (OpenSpec.ofChange leadersLeadSpec)) leadersLeadCard

/-- THE TIED CARD OF 'scullingkeep.ViewsBegin'. -/
def viewsBeginCard : Claim7 := { stood := { row := viewsBeginRow, standIns := [], harness := (true, "8da68ddbfe2d9829c44f18b6322011fcf5043c691a282b3139c7565336a78761"), looks := false }, kinds := [], alts := [], laidByText := true, laidKinds := [.data, .data, .data], laidTests := true, laidLooks := .later }
def ViewsBeginCardSaid : Prop := Claim7.holds Tryd.pinned (.plain (OpenSpec.ofChange viewsBeginSpec)) viewsBeginCard

/-- THE SECOND FORM's CARD OF 'scullingkeep.LeadersLead'. -/
def leadersLeadUptoCard : Claim7 := { stood := { row := leadersLeadUptoRow, standIns := [], harness := (true, "8da68ddbfe2d9829c44f18b6322011fcf5043c691a282b3139c7565336a78761"), looks := false }, kinds := [], alts := [], laidByText := true, laidKinds := [.data, .data, .data], laidTests := true, laidLooks := .later }
def LeadersLeadUptoCardSaid : Prop := Claim7.holds Tryd.pinned (.plain (OpenSpec.upto leadersLeadSpec)) leadersLeadUptoCard

/-- THE SECOND FORM's CARD OF 'scullingkeep.ViewsBegin'. -/
def viewsBeginUptoCard : Claim7 := { stood := { row := viewsBeginUptoRow, standIns := [], harness := (true, "8da68ddbfe2d9829c44f18b6322011fcf5043c691a282b3139c7565336a78761"), looks := false }, kinds := [], alts := [], laidByText := true, laidKinds := [.data, .data, .data], laidTests := true, laidLooks := .later }
def ViewsBeginUptoCardSaid : Prop := Claim7.holds Tryd.pinned (.plain (OpenSpec.upto viewsBeginSpec)) viewsBeginUptoCard
end Rows
end Go.Proofs.YtjnjhmkgfjikfaaDoor
