/-
  DERIVED. GIVEN WITH THE SEED: THE CARDS: each row of YtjklkjjfnipcnaaGreatDoorRows.lean that lists a variable, with what it lists TIED to the program's text (the seventh form; the later family's looks); each row that meets fmt, with fmt's text TOLD by the authors' own Lean function (tested against real Go, not proved from fmt's source: count such statements apart). THE CARD IS WHAT COUNTS. Prove the row's statement (the work); the ties are given (YtjklkjjfnipcnaaGreatDoorTie.lean); close each card by the builder's one call (the guide's Derived/Test/ToyasCard.lean, 'card_holds'). Laid BY PROGRAM, IN A SANDBOX (cutbox-door.mjs). By AI agents, Wed Nov 11 2026. No macro, syntax, notation, axiom, sorry.
-/
import Derived.Test.YtjklkjjfnipcnaaGreatDoorRows
import GoSem.ClaimSeven
namespace Go.Proofs.YtjklkjjfnipcnaaGreatDoor
namespace Rows

/-- THE TIED CARD OF 'catenarylaw32.PlanTurns'. -/
def planTurnsCard : Claim7 := { stood := { row := planTurnsRow, standIns := [], harness := (true, "8f85ccb9c2858c2cf4f9d637dac5016265a3c2ee4d4d1615a72ab9fa26b646fb"), looks := true }, kinds := [], alts := [], laidByText := true, laidKinds := [.data, .pinned], laidTests := true, laidLooks := .later }
def PlanTurnsCardSaid : Prop := Claim7.holds Tryz.pinned (.plain (OpenSpec.ofChange planTurnsSpec)) planTurnsCard

/-- THE TIED CARD OF 'catenarylaw32.PlanViews'. -/
def planViewsCard : Claim7 := { stood := { row := planViewsRow, standIns := [], harness := (true, "8f85ccb9c2858c2cf4f9d637dac5016265a3c2ee4d4d1615a72ab9fa26b646fb"), looks := true }, kinds := [], alts := [], laidByText := true, laidKinds := [.data, .pinned], laidTests := true, laidLooks := .later }
def PlanViewsCardSaid : Prop := Claim7.holds Tryz.pinned (.plain (OpenSpec.ofChange planViewsSpec)) planViewsCard

/-- THE SECOND FORM's CARD OF 'catenarylaw32.PlanTurns'. -/
def planTurnsUptoCard : Claim7 := { stood := { row := planTurnsUptoRow, standIns := [], harness := (true, "8f85ccb9c2858c2cf4f9d637dac5016265a3c2ee4d4d1615a72ab9fa26b646fb"), looks := true }, kinds := [], alts := [], laidByText := true, laidKinds := [.data, .pinned], laidTests := true, laidLooks := .later }
def PlanTurnsUptoCardSaid : Prop := Claim7.holds Tryz.pinned (.plain (OpenSpec.upto planTurnsSpec)) planTurnsUptoCard

/-- THE SECOND FORM's CARD OF 'catenarylaw32.PlanViews'. -/
def planViewsUptoCard : Claim7 := { stood := { row := planViewsUptoRow, standIns := [], harness := (true, "8f85ccb9c2858c2cf4f9d637dac5016265a3c2ee4d4d1615a72ab9fa26b646fb"), looks := true }, kinds := [], alts := [], laidByText := true, laidKinds := [.data, .pinned], laidTests := true, laidLooks := .later }
def PlanViewsUptoCardSaid : Prop := Claim7.holds Tryz.pinned (.plain (OpenSpec.upto planViewsSpec)) planViewsUptoCard
end Rows
end Go.Proofs.YtjklkjjfnipcnaaGreatDoor
