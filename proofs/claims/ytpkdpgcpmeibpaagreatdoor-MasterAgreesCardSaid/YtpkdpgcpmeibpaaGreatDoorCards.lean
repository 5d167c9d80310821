/-
  DERIVED. GIVEN WITH THE SEED: THE CARDS: each row of YtpkdpgcpmeibpaaGreatDoorRows.lean that lists a variable, with what it lists TIED to the program's text (the seventh form; the later family's looks); each row that meets fmt, with fmt's text TOLD by the authors' own Lean function (tested against real Go, not proved from fmt's source: count such statements apart). THE CARD IS WHAT COUNTS. Prove the row's statement (the work); the ties are given (YtpkdpgcpmeibpaaGreatDoorTie.lean); close each card by the builder's one call (the guide's Derived/Test/ToyasCard.lean, 'card_holds'). Laid BY PROGRAM, IN A SANDBOX (cutbox-door.mjs). By AI agents, Wed Nov 11 2026. No macro, syntax, notation, axiom, sorry.
-/
import Derived.Test.YtpkdpgcpmeibpaaGreatDoorRows
import GoSem.ClaimSeven
namespace Go.Proofs.YtpkdpgcpmeibpaaGreatDoor
namespace Rows

/-- THE TIED CARD OF 'catenarylaw14.MasterAgrees'. -/
def masterAgreesCard : Claim7 := { stood := { row := masterAgreesRow, standIns := [], harness := (true, "4ccb4995a35aab018730f95c921deb7597ebb8cf501d286968b7ced0483d948c"), looks := false }, kinds := [], alts := [], laidByText := true, laidKinds := [.data], laidTests := true, laidLooks := .later }
def MasterAgreesCardSaid : Prop := Claim7.holds Tryz.pinned (.plain (OpenSpec.ofChange masterAgreesSpec)) masterAgreesCard

/-- THE SECOND FORM's CARD OF 'catenarylaw14.MasterAgrees'. -/
def masterAgreesUptoCard : Claim7 := { stood := { row := masterAgreesUptoRow, standIns := [], harness := (true, "4ccb4995a35aab018730f95c921deb7597ebb8cf501d286968b7ced0483d948c"), looks := false }, kinds := [], alts := [], laidByText := true, laidKinds := [.data], laidTests := true, laidLooks := .later }
def MasterAgreesUptoCardSaid : Prop := Claim7.holds Tryz.pinned (.plain (OpenSpec.upto masterAgreesSpec)) masterAgreesUptoCard
end Rows
end Go.Proofs.YtpkdpgcpmeibpaaGreatDoor
