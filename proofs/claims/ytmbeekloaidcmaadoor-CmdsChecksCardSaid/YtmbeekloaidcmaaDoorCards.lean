/-
  DERIVED. GIVEN WITH THE SEED: THE CARDS: each row of YtmbeekloaidcmaaDoorRows.lean that lists a variable, with what it lists TIED to the program's text (the seventh form; the later family's looks); each row that meets fmt, with fmt's text TOLD by the authors' own Lean function (tested against real Go, not proved from fmt's source: count such statements apart). THE CARD IS WHAT COUNTS. Prove the row's statement (the work); the ties are given (YtmbeekloaidcmaaDoorTie.lean); close each card by the builder's one call (the guide's Derived/Test/ToyasCard.lean, 'card_holds'). Laid BY PROGRAM, IN A SANDBOX (cutbox-door.mjs). By AI agents, Wed Nov 11 2026. No macro, syntax, notation, axiom, sorry.
-/
import Derived.Test.YtmbeekloaidcmaaDoorRows
import GoSem.ClaimSeven
namespace Go.Proofs.YtmbeekloaidcmaaDoor
namespace Rows

/-- THE TIED CARD OF 'catenarylaw08.CmdsParses'. -/
def cmdsParsesCard : Claim7 := { stood := { row := cmdsParsesRow, standIns := [], harness := (true, "dc7c46b2a81ca8701efec492f07036220f7e5861b428d3d2268837cbb318e4da"), looks := true }, kinds := [], alts := [], laidByText := true, laidKinds := [.data, .data, .data, .data, .sentinel, .sentinel, .data, .pinned], laidTests := true, laidLooks := .later }
def CmdsParsesCardSaid : Prop := Claim7.holds Tryd.pinned (.plain (OpenSpec.ofChange cmdsParsesSpec)) cmdsParsesCard

/-- THE TIED CARD OF 'catenarylaw08.CmdsGets'. -/
def cmdsGetsCard : Claim7 := { stood := { row := cmdsGetsRow, standIns := [], harness := (true, "dc7c46b2a81ca8701efec492f07036220f7e5861b428d3d2268837cbb318e4da"), looks := true }, kinds := [], alts := [], laidByText := true, laidKinds := [.data, .data, .data, .data, .sentinel, .sentinel, .data, .pinned], laidTests := true, laidLooks := .later }
def CmdsGetsCardSaid : Prop := Claim7.holds Tryd.pinned (.plain (OpenSpec.ofChange cmdsGetsSpec)) cmdsGetsCard

/-- THE TIED CARD OF 'catenarylaw08.CmdsChecks'. -/
def cmdsChecksCard : Claim7 := { stood := { row := cmdsChecksRow, standIns := [], harness := (true, "dc7c46b2a81ca8701efec492f07036220f7e5861b428d3d2268837cbb318e4da"), looks := true }, kinds := [], alts := [], laidByText := true, laidKinds := [.data, .data, .data, .data, .sentinel, .sentinel, .data, .pinned], laidTests := true, laidLooks := .later }
def CmdsChecksCardSaid : Prop := Claim7.holds Tryd.pinned (.plain (OpenSpec.ofChange cmdsChecksSpec)) cmdsChecksCard

/-- THE TIED CARD OF 'catenarylaw08.CmdsDecodes'. -/
def cmdsDecodesCard : Claim7 := { stood := { row := cmdsDecodesRow, standIns := [], harness := (true, "dc7c46b2a81ca8701efec492f07036220f7e5861b428d3d2268837cbb318e4da"), looks := true }, kinds := [], alts := [], laidByText := true, laidKinds := [.data, .data, .data, .data, .sentinel, .sentinel, .data, .pinned], laidTests := true, laidLooks := .later }
def CmdsDecodesCardSaid : Prop := Claim7.holds Tryd.pinned (.plain (OpenSpec.ofChange cmdsDecodesSpec)) cmdsDecodesCard

/-- THE SECOND FORM's CARD OF 'catenarylaw08.CmdsParses'. -/
def cmdsParsesUptoCard : Claim7 := { stood := { row := cmdsParsesUptoRow, standIns := [], harness := (true, "dc7c46b2a81ca8701efec492f07036220f7e5861b428d3d2268837cbb318e4da"), looks := true }, kinds := [], alts := [], laidByText := true, laidKinds := [.data, .data, .data, .data, .sentinel, .sentinel, .data, .pinned], laidTests := true, laidLooks := .later }
def CmdsParsesUptoCardSaid : Prop := Claim7.holds Tryd.pinned (.plain (OpenSpec.upto cmdsParsesSpec)) cmdsParsesUptoCard

/-- THE SECOND FORM's CARD OF 'catenarylaw08.CmdsGets'. -/
def cmdsGetsUptoCard : Claim7 := { stood := { row := cmdsGetsUptoRow, standIns := [], harness := (true, "dc7c46b2a81ca8701efec492f07036220f7e5861b428d3d2268837cbb318e4da"), looks := true }, kinds := [], alts := [], laidByText := true, laidKinds := [.data, .data, .data, .data, .sentinel, .sentinel, .data, .pinned], laidTests := true, laidLooks := .later }
def CmdsGetsUptoCardSaid : Prop := Claim7.holds Tryd.pinned (.plain (OpenSpec.upto cmdsGetsSpec)) cmdsGetsUptoCard

/-- THE SECOND FORM's CARD OF 'catenarylaw08.CmdsChecks'. -/
def cmdsChecksUptoCard : Claim7 := { stood := { row := cmdsChecksUptoRow, standIns := [], harness := (true, "dc7c46b2a81ca8701efec492f07036220f7e5861b428d3d2268837cbb318e4da"), looks := true }, kinds := [], alts := [], laidByText := true, laidKinds := [.data, .data, .data, .data, .sentinel, .sentinel, .data, .pinned], laidTests := true, laidLooks := .later }
def CmdsChecksUptoCardSaid : Prop := Claim7.holds Tryd.pinned (.plain (OpenSpec.upto cmdsChecksSpec)) cmdsChecksUptoCard

/-- THE SECOND FORM's CARD OF 'catenarylaw08.CmdsDecodes'. -/
def cmdsDecodesUptoCard : Claim7 := { stood := { row := cmdsDecodesUptoRow, standIns := [], harness := (true, "dc7c46b2a81ca8701efec492f07036220f7e5861b428d3d2268837cbb318e4da"), looks := true }, kinds := [], alts := [], laidByText := true, laidKinds := [.data, .data, .data, .data, .sentinel, .sentinel, .data, .pinned], laidTests := true, laidLooks := .later }
def CmdsDecodesUptoCardSaid : Prop := Claim7.holds Tryd.pinned (.plain (OpenSpec.upto cmdsDecodesSpec)) cmdsDecodesUptoCard
end Rows
end Go.Proofs.YtmbeekloaidcmaaDoor
