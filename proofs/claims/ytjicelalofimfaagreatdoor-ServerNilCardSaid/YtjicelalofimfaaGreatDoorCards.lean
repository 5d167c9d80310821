/-
  DERIVED. GIVEN WITH THE SEED: THE CARDS: each row of YtjicelalofimfaaGreatDoorRows.lean that lists a variable, with what it lists TIED to the program's text (the seventh form; the later family's looks); each row that meets fmt, with fmt's text TOLD by the authors' own Lean function (tested against real Go, not proved from fmt's source: count such statements apart). THE CARD IS WHAT COUNTS. Prove the row's statement (the work); the ties are given (YtjicelalofimfaaGreatDoorTie.lean); close each card by the builder's one call (the guide's Derived/Test/ToyasCard.lean, 'card_holds'). Laid BY PROGRAM, IN A SANDBOX (cutbox-door.mjs). By AI agents, Wed Nov 11 2026. No macro, syntax, notation, axiom, sorry.
-/
import Derived.Test.YtjicelalofimfaaGreatDoorRows
import GoSem.ClaimSeven
namespace Go.Proofs.YtjicelalofimfaaGreatDoor
namespace Rows

/-- THE TIED CARD OF 'catenarylaw18.StoreNil'. -/
def storeNilCard : Claim7 := { stood := { row := storeNilRow, standIns := [], harness := (true, "8e0547e20ee4ba7af81177830350de387057debebf0760188b94b2abcb3a5660"), looks := false }, kinds := [], alts := [], laidByText := true, laidKinds := [.data], laidTests := true, laidLooks := .later }
def StoreNilCardSaid : Prop := Claim7.holds Tryz.pinned (.plain (OpenSpec.ofChange storeNilSpec)) storeNilCard

/-- THE TIED CARD OF 'catenarylaw14.MasterNil'. -/
def masterNilCard : Claim7 := { stood := { row := masterNilRow, standIns := [], harness := (true, "8e0547e20ee4ba7af81177830350de387057debebf0760188b94b2abcb3a5660"), looks := false }, kinds := [], alts := [], laidByText := true, laidKinds := [.data], laidTests := true, laidLooks := .later }
def MasterNilCardSaid : Prop := Claim7.holds Tryz.pinned (.plain (OpenSpec.ofChange masterNilSpec)) masterNilCard

/-- THE TIED CARD OF 'catenarylaw14.MasterRules'. -/
def masterRulesCard : Claim7 := { stood := { row := masterRulesRow, standIns := [], harness := (true, "8e0547e20ee4ba7af81177830350de387057debebf0760188b94b2abcb3a5660"), looks := false }, kinds := [], alts := [], laidByText := true, laidKinds := [.data], laidTests := true, laidLooks := .later }
def MasterRulesCardSaid : Prop := Claim7.holds Tryz.pinned (.plain (OpenSpec.ofChange masterRulesSpec)) masterRulesCard

/-- THE TIED CARD OF 'catenarylaw23.ReplicaNil'. -/
def replicaNilCard : Claim7 := { stood := { row := replicaNilRow, standIns := [], harness := (true, "8e0547e20ee4ba7af81177830350de387057debebf0760188b94b2abcb3a5660"), looks := false }, kinds := [], alts := [], laidByText := true, laidKinds := [.data], laidTests := true, laidLooks := .later }
def ReplicaNilCardSaid : Prop := Claim7.holds Tryz.pinned (.plain (OpenSpec.ofChange replicaNilSpec)) replicaNilCard

/-- THE TIED CARD OF 'catenarylaw23.ReplicaWrites'. -/
def replicaWritesCard : Claim7 := { stood := { row := replicaWritesRow, standIns := [], harness := (true, "8e0547e20ee4ba7af81177830350de387057debebf0760188b94b2abcb3a5660"), looks := false }, kinds := [], alts := [], laidByText := true, laidKinds := [.data], laidTests := true, laidLooks := .later }
def ReplicaWritesCardSaid : Prop := Claim7.holds Tryz.pinned (.plain (OpenSpec.ofChange replicaWritesSpec)) replicaWritesCard

/-- THE TIED CARD OF 'catenarylaw23.ReplicaJoins'. -/
def replicaJoinsCard : Claim7 := { stood := { row := replicaJoinsRow, standIns := [], harness := (true, "8e0547e20ee4ba7af81177830350de387057debebf0760188b94b2abcb3a5660"), looks := false }, kinds := [], alts := [], laidByText := true, laidKinds := [.data], laidTests := true, laidLooks := .later }
def ReplicaJoinsCardSaid : Prop := Claim7.holds Tryz.pinned (.plain (OpenSpec.ofChange replicaJoinsSpec)) replicaJoinsCard

/-- THE TIED CARD OF 'catenarylaw24.ServerNil'. -/
def serverNilCard : Claim7 := { stood := { row := serverNilRow, standIns := [], harness := (true, "8e0547e20ee4ba7af81177830350de387057debebf0760188b94b2abcb3a5660"), looks := false }, kinds := [], alts := [], laidByText := true, laidKinds := [.data], laidTests := true, laidLooks := .later }
def ServerNilCardSaid : Prop := Claim7.holds Tryz.pinned (.plain (OpenSpec.ofChange serverNilSpec)) serverNilCard

/-- THE SECOND FORM's CARD OF 'catenarylaw18.StoreNil'. -/
def storeNilUptoCard : Claim7 := { stood := { row := storeNilUptoRow, standIns := [], harness := (true, "8e0547e20ee4ba7af81177830350de387057debebf0760188b94b2abcb3a5660"), looks := false }, kinds := [], alts := [], laidByText := true, laidKinds := [.data], laidTests := true, laidLooks := .later }
def StoreNilUptoCardSaid : Prop := Claim7.holds Tryz.pinned (.plain (OpenSpec.upto storeNilSpec)) storeNilUptoCard

/-- THE SECOND FORM's CARD OF 'catenarylaw14.MasterNil'. -/
def masterNilUptoCard : Claim7 := { stood := { row := masterNilUptoRow, standIns := [], harness := (true, "8e0547e20ee4ba7af81177830350de387057debebf0760188b94b2abcb3a5660"), looks := false }, kinds := [], alts := [], laidByText := true, laidKinds := [.data], laidTests := true, laidLooks := .later }
def MasterNilUptoCardSaid : Prop := Claim7.holds Tryz.pinned (.plain (OpenSpec.upto masterNilSpec)) masterNilUptoCard

/-- THE SECOND FORM's CARD OF 'catenarylaw14.MasterRules'. -/
def masterRulesUptoCard : Claim7 := { stood := { row := masterRulesUptoRow, standIns := [], harness := (true, "8e0547e20ee4ba7af81177830350de387057debebf0760188b94b2abcb3a5660"), looks := false }, kinds := [], alts := [], laidByText := true, laidKinds := [.data], laidTests := true, laidLooks := .later }
def MasterRulesUptoCardSaid : Prop := Claim7.holds Tryz.pinned (.plain (OpenSpec.upto masterRulesSpec)) masterRulesUptoCard

/-- THE SECOND FORM's CARD OF 'catenarylaw23.ReplicaNil'. -/
def replicaNilUptoCard : Claim7 := { stood := { row := replicaNilUptoRow, standIns := [], harness := (true, "8e0547e20ee4ba7af81177830350de387057debebf0760188b94b2abcb3a5660"), looks := false }, kinds := [], alts := [], laidByText := true, laidKinds := [.data], laidTests := true, laidLooks := .later }
def ReplicaNilUptoCardSaid : Prop := Claim7.holds Tryz.pinned (.plain (OpenSpec.upto replicaNilSpec)) replicaNilUptoCard

/-- THE SECOND FORM's CARD OF 'catenarylaw23.ReplicaWrites'. -/
def replicaWritesUptoCard : Claim7 := { stood := { row := replicaWritesUptoRow, standIns := [], harness := (true, "8e0547e20ee4ba7af81177830350de387057debebf0760188b94b2abcb3a5660"), looks := false }, kinds := [], alts := [], laidByText := true, laidKinds := [.data], laidTests := true, laidLooks := .later }
def ReplicaWritesUptoCardSaid : Prop := Claim7.holds Tryz.pinned (.plain (OpenSpec.upto replicaWritesSpec)) replicaWritesUptoCard

/-- THE SECOND FORM's CARD OF 'catenarylaw23.ReplicaJoins'. -/
def replicaJoinsUptoCard : Claim7 := { stood := { row := replicaJoinsUptoRow, standIns := [], harness := (true, "8e0547e20ee4ba7af81177830350de387057debebf0760188b94b2abcb3a5660"), looks := false }, kinds := [], alts := [], laidByText := true, laidKinds := [.data], laidTests := true, laidLooks := .later }
def ReplicaJoinsUptoCardSaid : Prop := Claim7.holds Tryz.pinned (.plain (OpenSpec.upto replicaJoinsSpec)) replicaJoinsUptoCard

/-- THE SECOND FORM's CARD OF 'catenarylaw24.ServerNil'. -/
def serverNilUptoCard : Claim7 := { stood := { row := serverNilUptoRow, standIns := [], harness := (true, "8e0547e20ee4ba7af81177830350de387057debebf0760188b94b2abcb3a5660"), looks := false }, kinds := [], alts := [], laidByText := true, laidKinds := [.data], laidTests := true, laidLooks := .later }
def ServerNilUptoCardSaid : Prop := Claim7.holds Tryz.pinned (.plain (OpenSpec.upto serverNilSpec)) serverNilUptoCard
end Rows
end Go.Proofs.YtjicelalofimfaaGreatDoor
