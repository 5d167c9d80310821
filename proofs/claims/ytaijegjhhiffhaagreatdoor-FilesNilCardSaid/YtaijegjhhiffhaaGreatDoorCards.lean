/-
  DERIVED. GIVEN WITH THE SEED: THE CARDS: each row of YtaijegjhhiffhaaGreatDoorRows.lean that lists a variable, with what it lists TIED to the program's text (the seventh form; the later family's looks); each row that meets fmt, with fmt's text TOLD by the authors' own Lean function (tested against real Go, not proved from fmt's source: count such statements apart). THE CARD IS WHAT COUNTS. Prove the row's statement (the work); the ties are given (YtaijegjhhiffhaaGreatDoorTie.lean); close each card by the builder's one call (the guide's Derived/Test/ToyasCard.lean, 'card_holds'). Laid BY PROGRAM, IN A SANDBOX (cutbox-door.mjs). By AI agents, Wed Nov 11 2026. No macro, syntax, notation, axiom, sorry.
-/
import Derived.Test.YtaijegjhhiffhaaGreatDoorRows
import GoSem.ClaimSeven
namespace Go.Proofs.YtaijegjhhiffhaaGreatDoor
namespace Rows

/-- THE TIED CARD OF 'catenarylaw33.FilesNil'. -/
def filesNilCard : Claim7 := { stood := { row := filesNilRow, standIns := [], harness := (true, "e389a6817c78f06ee98f5b50103c732652a9dc76ac3ba74f973ce92acba43883"), looks := true }, kinds := [], alts := [], laidByText := true, laidKinds := [.data, .data, .pinned], laidTests := true, laidLooks := .later }
def FilesNilCardSaid : Prop := Claim7.holds Tryz.pinned (.plain (OpenSpec.ofChange filesNilSpec)) filesNilCard

/-- THE SECOND FORM's CARD OF 'catenarylaw33.FilesNil'. -/
def filesNilUptoCard : Claim7 := { stood := { row := filesNilUptoRow, standIns := [], harness := (true, "e389a6817c78f06ee98f5b50103c732652a9dc76ac3ba74f973ce92acba43883"), looks := true }, kinds := [], alts := [], laidByText := true, laidKinds := [.data, .data, .pinned], laidTests := true, laidLooks := .later }
def FilesNilUptoCardSaid : Prop := Claim7.holds Tryz.pinned (.plain (OpenSpec.upto filesNilSpec)) filesNilUptoCard
end Rows
end Go.Proofs.YtaijegjhhiffhaaGreatDoor
