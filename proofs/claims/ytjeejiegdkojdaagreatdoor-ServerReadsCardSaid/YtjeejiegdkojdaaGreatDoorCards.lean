/-
  DERIVED. GIVEN WITH THE SEED: THE CARDS: each row of YtjeejiegdkojdaaGreatDoorRows.lean that lists a variable, with what it lists TIED to the program's text (the seventh form; the later family's looks); each row that meets fmt, with fmt's text TOLD by the authors' own Lean function (tested against real Go, not proved from fmt's source: count such statements apart). THE CARD IS WHAT COUNTS. Prove the row's statement (the work); the ties are given (YtjeejiegdkojdaaGreatDoorTie.lean); close each card by the builder's one call (the guide's Derived/Test/ToyasCard.lean, 'card_holds'). Laid BY PROGRAM, IN A SANDBOX (cutbox-door.mjs). By AI agents, Wed Nov 11 2026. No macro, syntax, notation, axiom, sorry.
-/
import Derived.Test.YtjeejiegdkojdaaGreatDoorRows
import GoSem.ClaimSeven
namespace Go.Proofs.YtjeejiegdkojdaaGreatDoor
namespace Rows

/-- THE TIED CARD OF 'catenarylaw24.ServerReads'. -/
def serverReadsCard : Claim7 := { stood := { row := serverReadsRow, standIns := [], harness := (true, "84952083616225ef6d55d6eba857df2c54d4b47d3a0c9057ef8b595417be6f78"), looks := false }, kinds := [], alts := [], laidByText := true, laidKinds := [.data], laidTests := true, laidLooks := .later }
def ServerReadsCardSaid : Prop := Claim7.holds Tryz.pinned (.plain (OpenSpec.ofChange serverReadsSpec)) serverReadsCard

/-- THE SECOND FORM's CARD OF 'catenarylaw24.ServerReads'. -/
def serverReadsUptoCard : Claim7 := { stood := { row := serverReadsUptoRow, standIns := [], harness := (true, "84952083616225ef6d55d6eba857df2c54d4b47d3a0c9057ef8b595417be6f78"), looks := false }, kinds := [], alts := [], laidByText := true, laidKinds := [.data], laidTests := true, laidLooks := .later }
def ServerReadsUptoCardSaid : Prop := Claim7.holds Tryz.pinned (.plain (OpenSpec.upto serverReadsSpec)) serverReadsUptoCard
end Rows
end Go.Proofs.YtjeejiegdkojdaaGreatDoor
