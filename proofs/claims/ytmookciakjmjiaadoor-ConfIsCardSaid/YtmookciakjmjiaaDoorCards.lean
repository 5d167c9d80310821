/-
  DERIVED. GIVEN WITH THE SEED: THE CARDS: each row of YtmookciakjmjiaaDoorRows.lean that lists a variable, with what it lists TIED to the program's text (the seventh form; the later family's looks); each row that meets fmt, with fmt's text TOLD by the authors' own Lean function (tested against real Go, not proved from fmt's source: count such statements apart). THE CARD IS WHAT COUNTS. Prove the row's statement (the work); the ties are given (YtmookciakjmjiaaDoorTie.lean); close each card by the builder's one call (the guide's Derived/Test/ToyasCard.lean, 'card_holds'). Laid BY PROGRAM, IN A SANDBOX (cutbox-door.mjs). By AI agents, Wed Nov 11 2026. No macro, syntax, notation, axiom, sorry.
-/
import Derived.Test.YtmookciakjmjiaaDoorRows
import GoSem.ClaimSeven
namespace Go.Proofs.YtmookciakjmjiaaDoor
namespace Rows

/-- THE TIED CARD OF 'catenarylaw09.ConfDoes'. -/
def confDoesCard : Claim7 := { stood := { row := confDoesRow, standIns := [], harness := (true, "24fcfca6bf08ed134bd55004b4295ecec5a889afd53ddb0a083474d88acb065b"), looks := false }, kinds := [], alts := [], laidByText := true, laidKinds := [.data, .data, .data], laidTests := true, laidLooks := .later }
def ConfDoesCardSaid : Prop := Claim7.holds Tryd.pinned (.plain (OpenSpec.ofChange confDoesSpec)) confDoesCard

/-- THE TIED CARD OF 'catenarylaw09.ConfIs'. -/
def confIsCard : Claim7 := { stood := { row := confIsRow, standIns := [], harness := (true, "24fcfca6bf08ed134bd55004b4295ecec5a889afd53ddb0a083474d88acb065b"), looks := false }, kinds := [], alts := [], laidByText := true, laidKinds := [.data, .data, .data], laidTests := true, laidLooks := .later }
def ConfIsCardSaid : Prop := Claim7.holds Tryd.pinned (.plain (OpenSpec.ofChange confIsSpec)) confIsCard

/-- THE SECOND FORM's CARD OF 'catenarylaw09.ConfDoes'. -/
def confDoesUptoCard : Claim7 := { stood := { row := confDoesUptoRow, standIns := [], harness := (true, "24fcfca6bf08ed134bd55004b4295ecec5a889afd53ddb0a083474d88acb065b"), looks := false }, kinds := [], alts := [], laidByText := true, laidKinds := [.data, .data, .data], laidTests := true, laidLooks := .later }
def ConfDoesUptoCardSaid : Prop := Claim7.holds Tryd.pinned (.plain (OpenSpec.upto confDoesSpec)) confDoesUptoCard

/-- THE SECOND FORM's CARD OF 'catenarylaw09.ConfIs'. -/
def confIsUptoCard : Claim7 := { stood := { row := confIsUptoRow, standIns := [], harness := (true, "24fcfca6bf08ed134bd55004b4295ecec5a889afd53ddb0a083474d88acb065b"), looks := false }, kinds := [], alts := [], laidByText := true, laidKinds := [.data, .data, .data], laidTests := true, laidLooks := .later }
def ConfIsUptoCardSaid : Prop := Claim7.holds Tryd.pinned (.plain (OpenSpec.upto confIsSpec)) confIsUptoCard
end Rows
end Go.Proofs.YtmookciakjmjiaaDoor
