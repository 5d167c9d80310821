/-
  DERIVED. GIVEN WITH THE SEED: THE CARDS: each row of YtgjfaieghmigjaaGreatDoorRows.lean that lists a variable, with what it lists TIED to the program's text (the seventh form; the later family's looks); each row that meets fmt, with fmt's text TOLD by the authors' own Lean function (tested against real Go, not proved from fmt's source: count such statements apart). THE CARD IS WHAT COUNTS. Prove the row's statement (the work); the ties are given (YtgjfaieghmigjaaGreatDoorTie.lean); close each card by the builder's one call (the guide's Derived/Test/ToyasCard.lean, 'card_holds'). Laid BY PROGRAM, IN A SANDBOX (cutbox-door.mjs). By AI agents, Wed Nov 11 2026. No macro, syntax, notation, axiom, sorry.
-/
import Derived.Test.YtgjfaieghmigjaaGreatDoorRows
import GoSem.ClaimSeven
namespace Go.Proofs.YtgjfaieghmigjaaGreatDoor
namespace Rows

/-- THE TIED CARD OF 'catenarylaw22.CraqWaits'. -/
def craqWaitsCard : Claim7 := { stood := { row := craqWaitsRow, standIns := [], harness := (true, "2a6f93724f58c6d464ab1f62fdad12e588cc5d613415b3ab4f0ca76a2dea3d82"), looks := false }, kinds := [], alts := [], laidByText := true, laidKinds := [.data], laidTests := true, laidLooks := .later }
def CraqWaitsCardSaid : Prop := Claim7.holds Tryz.pinned (.plain (OpenSpec.ofChange craqWaitsSpec)) craqWaitsCard

/-- THE TIED CARD OF 'catenarylaw18.StoreRoom'. -/
def storeRoomCard : Claim7 := { stood := { row := storeRoomRow, standIns := [], harness := (true, "2a6f93724f58c6d464ab1f62fdad12e588cc5d613415b3ab4f0ca76a2dea3d82"), looks := false }, kinds := [], alts := [], laidByText := true, laidKinds := [.data], laidTests := true, laidLooks := .later }
def StoreRoomCardSaid : Prop := Claim7.holds Tryz.pinned (.plain (OpenSpec.ofChange storeRoomSpec)) storeRoomCard

/-- THE TIED CARD OF 'catenarylaw22.CraqAnswers'. -/
def craqAnswersCard : Claim7 := { stood := { row := craqAnswersRow, standIns := [], harness := (true, "2a6f93724f58c6d464ab1f62fdad12e588cc5d613415b3ab4f0ca76a2dea3d82"), looks := false }, kinds := [], alts := [], laidByText := true, laidKinds := [.data], laidTests := true, laidLooks := .later }
def CraqAnswersCardSaid : Prop := Claim7.holds Tryz.pinned (.plain (OpenSpec.ofChange craqAnswersSpec)) craqAnswersCard

/-- THE TIED CARD OF 'catenarylaw22.CraqNewer'. -/
def craqNewerCard : Claim7 := { stood := { row := craqNewerRow, standIns := [], harness := (true, "2a6f93724f58c6d464ab1f62fdad12e588cc5d613415b3ab4f0ca76a2dea3d82"), looks := false }, kinds := [], alts := [], laidByText := true, laidKinds := [.data], laidTests := true, laidLooks := .later }
def CraqNewerCardSaid : Prop := Claim7.holds Tryz.pinned (.plain (OpenSpec.ofChange craqNewerSpec)) craqNewerCard

/-- THE TIED CARD OF 'catenarylaw18.StoreGoesOn'. -/
def storeGoesOnCard : Claim7 := { stood := { row := storeGoesOnRow, standIns := [], harness := (true, "2a6f93724f58c6d464ab1f62fdad12e588cc5d613415b3ab4f0ca76a2dea3d82"), looks := false }, kinds := [], alts := [], laidByText := true, laidKinds := [.data], laidTests := true, laidLooks := .later }
def StoreGoesOnCardSaid : Prop := Claim7.holds Tryz.pinned (.plain (OpenSpec.ofChange storeGoesOnSpec)) storeGoesOnCard

/-- THE TIED CARD OF 'catenarylaw18.StorePlays'. -/
def storePlaysCard : Claim7 := { stood := { row := storePlaysRow, standIns := [], harness := (true, "2a6f93724f58c6d464ab1f62fdad12e588cc5d613415b3ab4f0ca76a2dea3d82"), looks := false }, kinds := [], alts := [], laidByText := true, laidKinds := [.data], laidTests := true, laidLooks := .later }
def StorePlaysCardSaid : Prop := Claim7.holds Tryz.pinned (.plain (OpenSpec.ofChange storePlaysSpec)) storePlaysCard

/-- THE TIED CARD OF 'catenarylaw18.StoreNil'. -/
def storeNilCard : Claim7 := { stood := { row := storeNilRow, standIns := [], harness := (true, "2a6f93724f58c6d464ab1f62fdad12e588cc5d613415b3ab4f0ca76a2dea3d82"), looks := false }, kinds := [], alts := [], laidByText := true, laidKinds := [.data], laidTests := true, laidLooks := .later }
def StoreNilCardSaid : Prop := Claim7.holds Tryz.pinned (.plain (OpenSpec.ofChange storeNilSpec)) storeNilCard

/-- THE TIED CARD OF 'catenarylaw18.StoreLoads'. -/
def storeLoadsCard : Claim7 := { stood := { row := storeLoadsRow, standIns := [], harness := (true, "2a6f93724f58c6d464ab1f62fdad12e588cc5d613415b3ab4f0ca76a2dea3d82"), looks := false }, kinds := [], alts := [], laidByText := true, laidKinds := [.data], laidTests := true, laidLooks := .later }
def StoreLoadsCardSaid : Prop := Claim7.holds Tryz.pinned (.plain (OpenSpec.ofChange storeLoadsSpec)) storeLoadsCard

/-- THE SECOND FORM's CARD OF 'catenarylaw22.CraqWaits'. -/
def craqWaitsUptoCard : Claim7 := { stood := { row := craqWaitsUptoRow, standIns := [], harness := (true, "2a6f93724f58c6d464ab1f62fdad12e588cc5d613415b3ab4f0ca76a2dea3d82"), looks := false }, kinds := [], alts := [], laidByText := true, laidKinds := [.data], laidTests := true, laidLooks := .later }
def CraqWaitsUptoCardSaid : Prop := Claim7.holds Tryz.pinned (.plain (OpenSpec.upto craqWaitsSpec)) craqWaitsUptoCard

/-- THE SECOND FORM's CARD OF 'catenarylaw18.StoreRoom'. -/
def storeRoomUptoCard : Claim7 := { stood := { row := storeRoomUptoRow, standIns := [], harness := (true, "2a6f93724f58c6d464ab1f62fdad12e588cc5d613415b3ab4f0ca76a2dea3d82"), looks := false }, kinds := [], alts := [], laidByText := true, laidKinds := [.data], laidTests := true, laidLooks := .later }
def StoreRoomUptoCardSaid : Prop := Claim7.holds Tryz.pinned (.plain (OpenSpec.upto storeRoomSpec)) storeRoomUptoCard

/-- THE SECOND FORM's CARD OF 'catenarylaw22.CraqAnswers'. -/
def craqAnswersUptoCard : Claim7 := { stood := { row := craqAnswersUptoRow, standIns := [], harness := (true, "2a6f93724f58c6d464ab1f62fdad12e588cc5d613415b3ab4f0ca76a2dea3d82"), looks := false }, kinds := [], alts := [], laidByText := true, laidKinds := [.data], laidTests := true, laidLooks := .later }
def CraqAnswersUptoCardSaid : Prop := Claim7.holds Tryz.pinned (.plain (OpenSpec.upto craqAnswersSpec)) craqAnswersUptoCard

/-- THE SECOND FORM's CARD OF 'catenarylaw22.CraqNewer'. -/
def craqNewerUptoCard : Claim7 := { stood := { row := craqNewerUptoRow, standIns := [], harness := (true, "2a6f93724f58c6d464ab1f62fdad12e588cc5d613415b3ab4f0ca76a2dea3d82"), looks := false }, kinds := [], alts := [], laidByText := true, laidKinds := [.data], laidTests := true, laidLooks := .later }
def CraqNewerUptoCardSaid : Prop := Claim7.holds Tryz.pinned (.plain (OpenSpec.upto craqNewerSpec)) craqNewerUptoCard

/-- THE SECOND FORM's CARD OF 'catenarylaw18.StoreGoesOn'. -/
def storeGoesOnUptoCard : Claim7 := { stood := { row := storeGoesOnUptoRow, standIns := [], harness := (true, "2a6f93724f58c6d464ab1f62fdad12e588cc5d613415b3ab4f0ca76a2dea3d82"), looks := false }, kinds := [], alts := [], laidByText := true, laidKinds := [.data], laidTests := true, laidLooks := .later }
def StoreGoesOnUptoCardSaid : Prop := Claim7.holds Tryz.pinned (.plain (OpenSpec.upto storeGoesOnSpec)) storeGoesOnUptoCard

/-- THE SECOND FORM's CARD OF 'catenarylaw18.StorePlays'. -/
def storePlaysUptoCard : Claim7 := { stood := { row := storePlaysUptoRow, standIns := [], harness := (true, "2a6f93724f58c6d464ab1f62fdad12e588cc5d613415b3ab4f0ca76a2dea3d82"), looks := false }, kinds := [], alts := [], laidByText := true, laidKinds := [.data], laidTests := true, laidLooks := .later }
def StorePlaysUptoCardSaid : Prop := Claim7.holds Tryz.pinned (.plain (OpenSpec.upto storePlaysSpec)) storePlaysUptoCard

/-- THE SECOND FORM's CARD OF 'catenarylaw18.StoreNil'. -/
def storeNilUptoCard : Claim7 := { stood := { row := storeNilUptoRow, standIns := [], harness := (true, "2a6f93724f58c6d464ab1f62fdad12e588cc5d613415b3ab4f0ca76a2dea3d82"), looks := false }, kinds := [], alts := [], laidByText := true, laidKinds := [.data], laidTests := true, laidLooks := .later }
def StoreNilUptoCardSaid : Prop := Claim7.holds Tryz.pinned (.plain (OpenSpec.upto storeNilSpec)) storeNilUptoCard

/-- THE SECOND FORM's CARD OF 'catenarylaw18.StoreLoads'. -/
def storeLoadsUptoCard : Claim7 := { stood := { row := storeLoadsUptoRow, standIns := [], harness := (true, "2a6f93724f58c6d464ab1f62fdad12e588cc5d613415b3ab4f0ca76a2dea3d82"), looks := false }, kinds := [], alts := [], laidByText := true, laidKinds := [.data], laidTests := true, laidLooks := .later }
def StoreLoadsUptoCardSaid : Prop := Claim7.holds Tryz.pinned (.plain (OpenSpec.upto storeLoadsSpec)) storeLoadsUptoCard
end Rows
end Go.Proofs.YtgjfaieghmigjaaGreatDoor
