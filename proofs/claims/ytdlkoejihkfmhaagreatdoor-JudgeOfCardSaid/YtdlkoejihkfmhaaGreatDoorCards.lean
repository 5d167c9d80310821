/-
  DERIVED. GIVEN WITH THE SEED: THE CARDS: each row of YtdlkoejihkfmhaaGreatDoorRows.lean that lists a variable, with what it lists TIED to the program's text (the seventh form; the later family's looks); each row that meets fmt, with fmt's text TOLD by the authors' own Lean function (tested against real Go, not proved from fmt's source: count such statements apart). THE CARD IS WHAT COUNTS. Prove the row's statement (the work); the ties are given (YtdlkoejihkfmhaaGreatDoorTie.lean); close each card by the builder's one call (the guide's Derived/Test/ToyasCard.lean, 'card_holds'). Laid BY PROGRAM, IN A SANDBOX (cutbox-door.mjs). By AI agents, Wed Nov 11 2026. No macro, syntax, notation, axiom, sorry.
-/
import Derived.Test.YtdlkoejihkfmhaaGreatDoorRows
import GoSem.ClaimSeven
namespace Go.Proofs.YtdlkoejihkfmhaaGreatDoor
namespace Rows

/-- THE TIED CARD OF 'catenarylaw36.JudgeOf'. -/
def judgeOfCard : Claim7 := { stood := { row := judgeOfRow, standIns := [], harness := (true, "d004f7a2ce72cd99b5d8b19b27d1f13e769069881eef14de3f3fda4ad9f139d1"), looks := true }, kinds := [], alts := [], laidByText := true, laidKinds := [.data, .data, .pinned], laidTests := true, laidLooks := .later }
def JudgeOfCardSaid : Prop := Claim7.holds Tryz.pinned (.plain (OpenSpec.ofChange judgeOfSpec)) judgeOfCard

/-- THE SECOND FORM's CARD OF 'catenarylaw36.JudgeOf'. -/
def judgeOfUptoCard : Claim7 := { stood := { row := judgeOfUptoRow, standIns := [], harness := (true, "d004f7a2ce72cd99b5d8b19b27d1f13e769069881eef14de3f3fda4ad9f139d1"), looks := true }, kinds := [], alts := [], laidByText := true, laidKinds := [.data, .data, .pinned], laidTests := true, laidLooks := .later }
def JudgeOfUptoCardSaid : Prop := Claim7.holds Tryz.pinned (.plain (OpenSpec.upto judgeOfSpec)) judgeOfUptoCard
end Rows
end Go.Proofs.YtdlkoejihkfmhaaGreatDoor
