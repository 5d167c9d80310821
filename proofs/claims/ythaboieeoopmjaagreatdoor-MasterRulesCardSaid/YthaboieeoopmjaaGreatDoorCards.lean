/-
  DERIVED. GIVEN WITH THE SEED: THE CARDS: each row of YthaboieeoopmjaaGreatDoorRows.lean that lists a variable, with what it lists TIED to the program's text (the seventh form; the later family's looks); each row that meets fmt, with fmt's text TOLD by the authors' own Lean function (tested against real Go, not proved from fmt's source: count such statements apart). THE CARD IS WHAT COUNTS. Prove the row's statement (the work); the ties are given (YthaboieeoopmjaaGreatDoorTie.lean); close each card by the builder's one call (the guide's Derived/Test/ToyasCard.lean, 'card_holds'). Laid BY PROGRAM, IN A SANDBOX (cutbox-door.mjs). By AI agents, Wed Nov 11 2026. No macro, syntax, notation, axiom, sorry.
-/
import Derived.Test.YthaboieeoopmjaaGreatDoorRows
import GoSem.ClaimSeven
namespace Go.Proofs.YthaboieeoopmjaaGreatDoor
namespace Rows

/-- THE TIED CARD OF 'catenarylaw14.MasterRules'. -/
def masterRulesCard : Claim7 := { stood := { row := masterRulesRow, standIns := [], harness := (true, "04d0e7d5e506cea72cbdce75d21d06b02be4c2018dcc488e7fd2cbd827486b4e"), looks := false }, kinds := [], alts := [], laidByText := true, laidKinds := [.data], laidTests := true, laidLooks := .later }
def MasterRulesCardSaid : Prop := Claim7.holds Tryz.pinned (.plain (OpenSpec.ofChange masterRulesSpec)) masterRulesCard

/-- THE SECOND FORM's CARD OF 'catenarylaw14.MasterRules'. -/
def masterRulesUptoCard : Claim7 := { stood := { row := masterRulesUptoRow, standIns := [], harness := (true, "04d0e7d5e506cea72cbdce75d21d06b02be4c2018dcc488e7fd2cbd827486b4e"), looks := false }, kinds := [], alts := [], laidByText := true, laidKinds := [.data], laidTests := true, laidLooks := .later }
def MasterRulesUptoCardSaid : Prop := Claim7.holds Tryz.pinned (.plain (OpenSpec.upto masterRulesSpec)) masterRulesUptoCard
end Rows
end Go.Proofs.YthaboieeoopmjaaGreatDoor
