/-
  DERIVED. GIVEN WITH THE SEED: THE CARDS: each row of YteoljjhhdgplnaaGreatDoorRows.lean that lists a variable, with what it lists TIED to the program's text (the seventh form; the later family's looks); each row that meets fmt, with fmt's text TOLD by the authors' own Lean function (tested against real Go, not proved from fmt's source: count such statements apart). THE CARD IS WHAT COUNTS. Prove the row's statement (the work); the ties are given (YteoljjhhdgplnaaGreatDoorTie.lean); close each card by the builder's one call (the guide's Derived/Test/ToyasCard.lean, 'card_holds'). Laid BY PROGRAM, IN A SANDBOX (cutbox-door.mjs). By AI agents, Wed Nov 11 2026. No macro, syntax, notation, axiom, sorry.
-/
import Derived.Test.YteoljjhhdgplnaaGreatDoorRows
import GoSem.ClaimSeven
namespace Go.Proofs.YteoljjhhdgplnaaGreatDoor
namespace Rows

/-- THE TIED CARD OF 'catenarylaw23.ReplicaWrites'. -/
def replicaWritesCard : Claim7 := { stood := { row := replicaWritesRow, standIns := [], harness := (true, "7f72a9d1ab64ec01a0f426fe8333482c9ba75fd30fe4540b5ccd682ccd0df1ab"), looks := false }, kinds := [], alts := [], laidByText := true, laidKinds := [.data], laidTests := true, laidLooks := .later }
def ReplicaWritesCardSaid : Prop := Claim7.holds Tryz.pinned (.plain (OpenSpec.ofChange replicaWritesSpec)) replicaWritesCard

/-- THE TIED CARD OF 'catenarylaw23.ReplicaChain'. -/
def replicaChainCard : Claim7 := { stood := { row := replicaChainRow, standIns := [], harness := (true, "7f72a9d1ab64ec01a0f426fe8333482c9ba75fd30fe4540b5ccd682ccd0df1ab"), looks := false }, kinds := [], alts := [], laidByText := true, laidKinds := [.data], laidTests := true, laidLooks := .later }
def ReplicaChainCardSaid : Prop := Claim7.holds Tryz.pinned (.plain (OpenSpec.ofChange replicaChainSpec)) replicaChainCard

/-- THE TIED CARD OF 'catenarylaw23.ReplicaJoins'. -/
def replicaJoinsCard : Claim7 := { stood := { row := replicaJoinsRow, standIns := [], harness := (true, "7f72a9d1ab64ec01a0f426fe8333482c9ba75fd30fe4540b5ccd682ccd0df1ab"), looks := false }, kinds := [], alts := [], laidByText := true, laidKinds := [.data], laidTests := true, laidLooks := .later }
def ReplicaJoinsCardSaid : Prop := Claim7.holds Tryz.pinned (.plain (OpenSpec.ofChange replicaJoinsSpec)) replicaJoinsCard

/-- THE SECOND FORM's CARD OF 'catenarylaw23.ReplicaWrites'. -/
def replicaWritesUptoCard : Claim7 := { stood := { row := replicaWritesUptoRow, standIns := [], harness := (true, "7f72a9d1ab64ec01a0f426fe8333482c9ba75fd30fe4540b5ccd682ccd0df1ab"), looks := false }, kinds := [], alts := [], laidByText := true, laidKinds := [.data], laidTests := true, laidLooks := .later }
def ReplicaWritesUptoCardSaid : Prop := Claim7.holds Tryz.pinned (.plain (OpenSpec.upto replicaWritesSpec)) replicaWritesUptoCard

/-- THE SECOND FORM's CARD OF 'catenarylaw23.ReplicaChain'. -/
def replicaChainUptoCard : Claim7 := { stood := { row := replicaChainUptoRow, standIns := [], harness := (true, "7f72a9d1ab64ec01a0f426fe8333482c9ba75fd30fe4540b5ccd682ccd0df1ab"), looks := false }, kinds := [], alts := [], laidByText := true, laidKinds := [.data], laidTests := true, laidLooks := .later }
def ReplicaChainUptoCardSaid : Prop := Claim7.holds Tryz.pinned (.plain (OpenSpec.upto replicaChainSpec)) replicaChainUptoCard

/-- THE SECOND FORM's CARD OF 'catenarylaw23.ReplicaJoins'. -/
def replicaJoinsUptoCard : Claim7 := { stood := { row := replicaJoinsUptoRow, standIns := [], harness := (true, "7f72a9d1ab64ec01a0f426fe8333482c9ba75fd30fe4540b5ccd682ccd0df1ab"), looks := false }, kinds := [], alts := [], laidByText := true, laidKinds := [.data], laidTests := true, laidLooks := .later }
def ReplicaJoinsUptoCardSaid : Prop := Claim7.holds Tryz.pinned (.plain (OpenSpec.upto replicaJoinsSpec)) replicaJoinsUptoCard
end Rows
end Go.Proofs.YteoljjhhdgplnaaGreatDoor
