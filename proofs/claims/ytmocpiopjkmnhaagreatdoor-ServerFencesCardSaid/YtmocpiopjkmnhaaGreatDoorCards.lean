/-
  DERIVED. GIVEN WITH THE SEED: THE CARDS: each row of YtmocpiopjkmnhaaGreatDoorRows.lean that lists a variable, with what it lists TIED to the program's text (the seventh form; the later family's looks); each row that meets fmt, with fmt's text TOLD by the authors' own Lean function (tested against real Go, not proved from fmt's source: count such statements apart). THE CARD IS WHAT COUNTS. Prove the row's statement (the work); the ties are given (YtmocpiopjkmnhaaGreatDoorTie.lean); close each card by the builder's one call (the guide's Derived/Test/ToyasCard.lean, 'card_holds'). Laid BY PROGRAM, IN A SANDBOX (cutbox-door.mjs). By AI agents, Wed Nov 11 2026. No macro, syntax, notation, axiom, sorry.
-/
import Derived.Test.YtmocpiopjkmnhaaGreatDoorRows
import GoSem.ClaimSeven
namespace Go.Proofs.YtmocpiopjkmnhaaGreatDoor
namespace Rows

/-- THE TIED CARD OF 'catenarylaw24.ServerFences'. -/
def serverFencesCard : Claim7 := { stood := { row := serverFencesRow, standIns := [], harness := (true, "d293b0cb0d70cf641ed40482129b6a6bd11ae87a88b8994c6a6baa846440c1ea"), looks := false }, kinds := [], alts := [], laidByText := true, laidKinds := [.data], laidTests := true, laidLooks := .later }
def ServerFencesCardSaid : Prop := Claim7.holds Tryz.pinned (.plain (OpenSpec.ofChange serverFencesSpec)) serverFencesCard

/-- THE SECOND FORM's CARD OF 'catenarylaw24.ServerFences'. -/
def serverFencesUptoCard : Claim7 := { stood := { row := serverFencesUptoRow, standIns := [], harness := (true, "d293b0cb0d70cf641ed40482129b6a6bd11ae87a88b8994c6a6baa846440c1ea"), looks := false }, kinds := [], alts := [], laidByText := true, laidKinds := [.data], laidTests := true, laidLooks := .later }
def ServerFencesUptoCardSaid : Prop := Claim7.holds Tryz.pinned (.plain (OpenSpec.upto serverFencesSpec)) serverFencesUptoCard
end Rows
end Go.Proofs.YtmocpiopjkmnhaaGreatDoor
