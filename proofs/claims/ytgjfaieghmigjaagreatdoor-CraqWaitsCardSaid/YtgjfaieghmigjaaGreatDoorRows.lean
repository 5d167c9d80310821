/-
  NARROWER THAN 'FOR EVERY INPUT', by the rows' own cells (each row's printed sentence says how): CraqWaits: laid · StoreRoom: laid · CraqAnswers: laid · CraqNewer: laid · StoreGoesOn: laid · StorePlays: laid · StoreNil: laid · StoreLoads: laid.
  DERIVED. THE GIVEN ROWS OF THIS SEAT. 8 by the template 'for every input the law returns true; each argument reads behind the call as it read before'; 0 by the template 'total and deterministic' (their statements: YtgjfaieghmigjaaGreatDoorTotals.lean).
  GIVEN WITH THE SEED: the statements are not yours to turn. If you find one false, say at which input.
  Laid BY PROGRAM, IN A SANDBOX (cutbox-rows.mjs): the forced cells as the released guide's own fill.sh prints them over the translation c8bee5e2a9f22b37… (all of the seat's roots in one cut). By AI agents, Wed Nov 11 2026. No macro, syntax, notation, axiom, sorry.
-/
import Derived.Test.YtgjfaieghmigjaaGreatDoorChecked
import GoSem.Claim
import GoSem.ClaimJoined
import GoSem.ClaimMapViews
import Derived.JoinedTies
import Derived.KernelRfl
namespace Go.Proofs.YtgjfaieghmigjaaGreatDoor
/- THE CELL 'sum', in the pinned program and in every row, IS THE sha256 OF THE DUMP (.gsa) THAT YtgjfaieghmigjaaGreatDoorProg.lean LOADS. Nothing in Lean hashes anything: it is a label: what it is worth is what the hold of that sum in a sandbox is worth. -/
noncomputable def Tryz.pinned : Pinned := { name := "ytgjfaieghmigjaagreatdoor", sum := "c8bee5e2a9f22b3718653f25b08a38da6811eeb2f285d73b86c28987a181a83b", checked := Tryz.checked }
namespace Rows
def none {H : Type} : Left H := { results := [], args := [] }

/- WHAT THE LISTED PACKAGE-LEVEL VARIABLES READ AS WHEN THE CALL BEGINS. Each datum BY PROGRAM (the guide's laid-datum.mjs) off the statement by which the dump's own 'gosem.cut.vars' lays the variable. In a bare row this is a premise. The card (YtgjfaieghmigjaaGreatDoorCards.lean) ties it to the program's text. -/
def laid_catenary_letter_kinds {H : Type} : DataW H := .agg [.agg [.lit (.string []), .agg [.lit (.int .i64 0), .lit (.int .i64 0), .lit (.int .i64 0), .lit (.int .i64 0), .lit (.int .i64 0), .lit (.int .i64 0)]], .agg [.lit (.string [112, 114, 101, 112, 97, 114, 101]), .agg [.lit (.int .i64 4), .lit (.int .i64 32), .lit (.int .i64 0), .lit (.int .i64 0), .lit (.int .i64 0), .lit (.int .i64 0)]], .agg [.lit (.string [112, 114, 111, 109, 105, 115, 101]), .agg [.lit (.int .i64 4), .lit (.int .i64 32), .lit (.int .i64 4096), .lit (.int .i64 0), .lit (.int .i64 0), .lit (.int .i64 0)]], .agg [.lit (.string [97, 99, 99, 101, 112, 116]), .agg [.lit (.int .i64 4), .lit (.int .i64 32), .lit (.int .i64 1024), .lit (.int .i64 0), .lit (.int .i64 0), .lit (.int .i64 0)]], .agg [.lit (.string [97, 99, 99, 101, 112, 116, 101, 100]), .agg [.lit (.int .i64 4), .lit (.int .i64 32), .lit (.int .i64 0), .lit (.int .i64 0), .lit (.int .i64 0), .lit (.int .i64 0)]], .agg [.lit (.string [99, 104, 111, 115, 101, 110]), .agg [.lit (.int .i64 32), .lit (.int .i64 1024), .lit (.int .i64 0), .lit (.int .i64 0), .lit (.int .i64 0), .lit (.int .i64 0)]], .agg [.lit (.string [98, 101, 97, 116]), .agg [.lit (.int .i64 4), .lit (.int .i64 32), .lit (.int .i64 0), .lit (.int .i64 0), .lit (.int .i64 0), .lit (.int .i64 0)]], .agg [.lit (.string [119, 97, 110, 116]), .agg [.lit (.int .i64 32), .lit (.int .i64 0), .lit (.int .i64 0), .lit (.int .i64 0), .lit (.int .i64 0), .lit (.int .i64 0)]], .agg [.lit (.string [114, 101, 102, 117, 115, 101]), .agg [.lit (.int .i64 4), .lit (.int .i64 0), .lit (.int .i64 0), .lit (.int .i64 0), .lit (.int .i64 0), .lit (.int .i64 0)]], .agg [.lit (.string [114, 101, 112, 111, 114, 116]), .agg [.lit (.int .i64 1024), .lit (.int .i64 0), .lit (.int .i64 0), .lit (.int .i64 0), .lit (.int .i64 0), .lit (.int .i64 0)]], .agg [.lit (.string [108, 111, 99, 97, 116, 101]), .agg [.lit (.int .i64 1), .lit (.int .i64 0), .lit (.int .i64 0), .lit (.int .i64 0), .lit (.int .i64 0), .lit (.int .i64 0)]], .agg [.lit (.string [99, 111, 110, 102, 105, 103]), .agg [.lit (.int .i64 2048), .lit (.int .i64 0), .lit (.int .i64 0), .lit (.int .i64 0), .lit (.int .i64 0), .lit (.int .i64 0)]], .agg [.lit (.string [112, 117, 115, 104]), .agg [.lit (.int .i64 1), .lit (.int .i64 2), .lit (.int .i64 8), .lit (.int .i64 16), .lit (.int .i64 8192), .lit (.int .i64 0)]], .agg [.lit (.string [97, 99, 107]), .agg [.lit (.int .i64 1), .lit (.int .i64 2), .lit (.int .i64 8), .lit (.int .i64 16), .lit (.int .i64 64), .lit (.int .i64 32)]], .agg [.lit (.string [112, 97, 114, 116]), .agg [.lit (.int .i64 1), .lit (.int .i64 2), .lit (.int .i64 8), .lit (.int .i64 32), .lit (.int .i64 64), .lit (.int .i64 16384)]], .agg [.lit (.string [113, 117, 101, 114, 121]), .agg [.lit (.int .i64 1), .lit (.int .i64 2), .lit (.int .i64 64), .lit (.int .i64 256), .lit (.int .i64 0), .lit (.int .i64 0)]], .agg [.lit (.string [116, 111, 108, 100]), .agg [.lit (.int .i64 1), .lit (.int .i64 2), .lit (.int .i64 64), .lit (.int .i64 256), .lit (.int .i64 512), .lit (.int .i64 0)]], .agg [.lit (.string [119, 114, 105, 116, 101]), .agg [.lit (.int .i64 1), .lit (.int .i64 2), .lit (.int .i64 8192), .lit (.int .i64 0), .lit (.int .i64 0), .lit (.int .i64 0)]], .agg [.lit (.string [119, 114, 111, 116, 101]), .agg [.lit (.int .i64 64), .lit (.int .i64 128), .lit (.int .i64 512), .lit (.int .i64 0), .lit (.int .i64 0), .lit (.int .i64 0)]], .agg [.lit (.string [114, 101, 97, 100]), .agg [.lit (.int .i64 1), .lit (.int .i64 2), .lit (.int .i64 64), .lit (.int .i64 256), .lit (.int .i64 0), .lit (.int .i64 0)]], .agg [.lit (.string [103, 111, 116]), .agg [.lit (.int .i64 64), .lit (.int .i64 256), .lit (.int .i64 512), .lit (.int .i64 16384), .lit (.int .i64 0), .lit (.int .i64 0)]]]

/-- 'catenarylaw22.CraqWaits': WHATEVER THE INPUT: true; the input reads as it did. -/
def craqWaitsSpec : ChangeSpec := { name := "craqWaits", fn := fun _ => fun
  | [d] => { results := [.lit (.bool true)], args := [d] }
  | _ => none }
def craqWaitsRow : OpenClaim := { program := "ytgjfaieghmigjaagreatdoor", sum := "c8bee5e2a9f22b3718653f25b08a38da6811eeb2f285d73b86c28987a181a83b", func := "catenary/catenarylaw22.CraqWaits", spec := "craqWaits", unfollowed := true, recurses := true, named := ["catenary/letter.kinds"], apart := false, laid := [("catenary/letter.kinds", laid_catenary_letter_kinds)] }
def CraqWaitsSaid : Prop := craqWaitsRow.holds Tryz.pinned (OpenSpec.ofChange craqWaitsSpec)

/-- ITS FALSE NEIGHBOUR: 'it returns false'. Refute it at one input. -/
def craqWaitsWrong : ChangeSpec := { name := "craqWaits", fn := fun _ => fun
  | [d] => { results := [.lit (.bool false)], args := [d] }
  | _ => none }
def CraqWaitsWrongFalsely : Prop := craqWaitsRow.holds Tryz.pinned (OpenSpec.ofChange craqWaitsWrong)

/-- 'catenarylaw18.StoreRoom': WHATEVER THE INPUT: true; the input reads as it did. -/
def storeRoomSpec : ChangeSpec := { name := "storeRoom", fn := fun _ => fun
  | [d1, d2] => { results := [.lit (.bool true)], args := [d1, d2] }
  | _ => none }
def storeRoomRow : OpenClaim := { program := "ytgjfaieghmigjaagreatdoor", sum := "c8bee5e2a9f22b3718653f25b08a38da6811eeb2f285d73b86c28987a181a83b", func := "catenary/catenarylaw18.StoreRoom", spec := "storeRoom", unfollowed := true, recurses := true, named := ["catenary/letter.kinds"], apart := false, laid := [("catenary/letter.kinds", laid_catenary_letter_kinds)] }
def StoreRoomSaid : Prop := storeRoomRow.holds Tryz.pinned (OpenSpec.ofChange storeRoomSpec)

/-- ITS FALSE NEIGHBOUR: 'it returns false'. Refute it at one input. -/
def storeRoomWrong : ChangeSpec := { name := "storeRoom", fn := fun _ => fun
  | [d1, d2] => { results := [.lit (.bool false)], args := [d1, d2] }
  | _ => none }
def StoreRoomWrongFalsely : Prop := storeRoomRow.holds Tryz.pinned (OpenSpec.ofChange storeRoomWrong)

/-- 'catenarylaw22.CraqAnswers': WHATEVER THE INPUT: true; the input reads as it did. -/
def craqAnswersSpec : ChangeSpec := { name := "craqAnswers", fn := fun _ => fun
  | [d1, d2, d3] => { results := [.lit (.bool true)], args := [d1, d2, d3] }
  | _ => none }
def craqAnswersRow : OpenClaim := { program := "ytgjfaieghmigjaagreatdoor", sum := "c8bee5e2a9f22b3718653f25b08a38da6811eeb2f285d73b86c28987a181a83b", func := "catenary/catenarylaw22.CraqAnswers", spec := "craqAnswers", unfollowed := true, recurses := true, named := ["catenary/letter.kinds"], apart := false, laid := [("catenary/letter.kinds", laid_catenary_letter_kinds)] }
def CraqAnswersSaid : Prop := craqAnswersRow.holds Tryz.pinned (OpenSpec.ofChange craqAnswersSpec)

/-- ITS FALSE NEIGHBOUR: 'it returns false'. Refute it at one input. -/
def craqAnswersWrong : ChangeSpec := { name := "craqAnswers", fn := fun _ => fun
  | [d1, d2, d3] => { results := [.lit (.bool false)], args := [d1, d2, d3] }
  | _ => none }
def CraqAnswersWrongFalsely : Prop := craqAnswersRow.holds Tryz.pinned (OpenSpec.ofChange craqAnswersWrong)

/-- 'catenarylaw22.CraqNewer': WHATEVER THE INPUT: true; the input reads as it did. -/
def craqNewerSpec : ChangeSpec := { name := "craqNewer", fn := fun _ => fun
  | [d1, d2, d3] => { results := [.lit (.bool true)], args := [d1, d2, d3] }
  | _ => none }
def craqNewerRow : OpenClaim := { program := "ytgjfaieghmigjaagreatdoor", sum := "c8bee5e2a9f22b3718653f25b08a38da6811eeb2f285d73b86c28987a181a83b", func := "catenary/catenarylaw22.CraqNewer", spec := "craqNewer", unfollowed := true, recurses := true, named := ["catenary/letter.kinds"], apart := false, laid := [("catenary/letter.kinds", laid_catenary_letter_kinds)] }
def CraqNewerSaid : Prop := craqNewerRow.holds Tryz.pinned (OpenSpec.ofChange craqNewerSpec)

/-- ITS FALSE NEIGHBOUR: 'it returns false'. Refute it at one input. -/
def craqNewerWrong : ChangeSpec := { name := "craqNewer", fn := fun _ => fun
  | [d1, d2, d3] => { results := [.lit (.bool false)], args := [d1, d2, d3] }
  | _ => none }
def CraqNewerWrongFalsely : Prop := craqNewerRow.holds Tryz.pinned (OpenSpec.ofChange craqNewerWrong)

/-- 'catenarylaw18.StoreGoesOn': WHATEVER THE INPUT: true; the input reads as it did. -/
def storeGoesOnSpec : ChangeSpec := { name := "storeGoesOn", fn := fun _ => fun
  | [d1, d2] => { results := [.lit (.bool true)], args := [d1, d2] }
  | _ => none }
def storeGoesOnRow : OpenClaim := { program := "ytgjfaieghmigjaagreatdoor", sum := "c8bee5e2a9f22b3718653f25b08a38da6811eeb2f285d73b86c28987a181a83b", func := "catenary/catenarylaw18.StoreGoesOn", spec := "storeGoesOn", unfollowed := true, recurses := true, named := ["catenary/letter.kinds"], apart := false, laid := [("catenary/letter.kinds", laid_catenary_letter_kinds)] }
def StoreGoesOnSaid : Prop := storeGoesOnRow.holds Tryz.pinned (OpenSpec.ofChange storeGoesOnSpec)

/-- ITS FALSE NEIGHBOUR: 'it returns false'. Refute it at one input. -/
def storeGoesOnWrong : ChangeSpec := { name := "storeGoesOn", fn := fun _ => fun
  | [d1, d2] => { results := [.lit (.bool false)], args := [d1, d2] }
  | _ => none }
def StoreGoesOnWrongFalsely : Prop := storeGoesOnRow.holds Tryz.pinned (OpenSpec.ofChange storeGoesOnWrong)

/-- 'catenarylaw18.StorePlays': WHATEVER THE INPUT: true; the input reads as it did. -/
def storePlaysSpec : ChangeSpec := { name := "storePlays", fn := fun _ => fun
  | [d] => { results := [.lit (.bool true)], args := [d] }
  | _ => none }
def storePlaysRow : OpenClaim := { program := "ytgjfaieghmigjaagreatdoor", sum := "c8bee5e2a9f22b3718653f25b08a38da6811eeb2f285d73b86c28987a181a83b", func := "catenary/catenarylaw18.StorePlays", spec := "storePlays", unfollowed := true, recurses := true, named := ["catenary/letter.kinds"], apart := false, laid := [("catenary/letter.kinds", laid_catenary_letter_kinds)] }
def StorePlaysSaid : Prop := storePlaysRow.holds Tryz.pinned (OpenSpec.ofChange storePlaysSpec)

/-- ITS FALSE NEIGHBOUR: 'it returns false'. Refute it at one input. -/
def storePlaysWrong : ChangeSpec := { name := "storePlays", fn := fun _ => fun
  | [d] => { results := [.lit (.bool false)], args := [d] }
  | _ => none }
def StorePlaysWrongFalsely : Prop := storePlaysRow.holds Tryz.pinned (OpenSpec.ofChange storePlaysWrong)

/-- 'catenarylaw18.StoreNil': WHATEVER THE INPUT: true; the input reads as it did. -/
def storeNilSpec : ChangeSpec := { name := "storeNil", fn := fun _ => fun
  | [d] => { results := [.lit (.bool true)], args := [d] }
  | _ => none }
def storeNilRow : OpenClaim := { program := "ytgjfaieghmigjaagreatdoor", sum := "c8bee5e2a9f22b3718653f25b08a38da6811eeb2f285d73b86c28987a181a83b", func := "catenary/catenarylaw18.StoreNil", spec := "storeNil", unfollowed := true, recurses := true, named := ["catenary/letter.kinds"], apart := false, laid := [("catenary/letter.kinds", laid_catenary_letter_kinds)] }
def StoreNilSaid : Prop := storeNilRow.holds Tryz.pinned (OpenSpec.ofChange storeNilSpec)

/-- ITS FALSE NEIGHBOUR: 'it returns false'. Refute it at one input. -/
def storeNilWrong : ChangeSpec := { name := "storeNil", fn := fun _ => fun
  | [d] => { results := [.lit (.bool false)], args := [d] }
  | _ => none }
def StoreNilWrongFalsely : Prop := storeNilRow.holds Tryz.pinned (OpenSpec.ofChange storeNilWrong)

/-- 'catenarylaw18.StoreLoads': WHATEVER THE INPUT: true; the input reads as it did. -/
def storeLoadsSpec : ChangeSpec := { name := "storeLoads", fn := fun _ => fun
  | [d1, d2] => { results := [.lit (.bool true)], args := [d1, d2] }
  | _ => none }
def storeLoadsRow : OpenClaim := { program := "ytgjfaieghmigjaagreatdoor", sum := "c8bee5e2a9f22b3718653f25b08a38da6811eeb2f285d73b86c28987a181a83b", func := "catenary/catenarylaw18.StoreLoads", spec := "storeLoads", unfollowed := true, recurses := true, named := ["catenary/letter.kinds"], apart := false, laid := [("catenary/letter.kinds", laid_catenary_letter_kinds)] }
def StoreLoadsSaid : Prop := storeLoadsRow.holds Tryz.pinned (OpenSpec.ofChange storeLoadsSpec)

/-- ITS FALSE NEIGHBOUR: 'it returns false'. Refute it at one input. -/
def storeLoadsWrong : ChangeSpec := { name := "storeLoads", fn := fun _ => fun
  | [d1, d2] => { results := [.lit (.bool false)], args := [d1, d2] }
  | _ => none }
def StoreLoadsWrongFalsely : Prop := storeLoadsRow.holds Tryz.pinned (OpenSpec.ofChange storeLoadsWrong)

/- THE SECOND FORM. 'bulk': how many values and letters a reading holds, each counted each time it is reached (what is shared counts as often as it is met; a slice's spare places count too). A statement '..UptoSaid' is the law's where the arguments, and the package variables that the reading takes, are together of bulk at most 1048576: NARROWER than '..Said'. Prove '..Said' where nothing that the law and all that it calls make is longer than what came in: it says more and counts as full. Else prove '..UptoSaid'. A law counts once. -/
mutual
def uptoBulk {H : Type} : DataW H → Nat
  | .lit (.string bytes) => bytes.length + 1
  | .lit _ => 1
  | .nil => 1
  | .ptr d => uptoBulk d + 1
  | .slice elems spare => uptoBulkAll elems + uptoBulkAll spare + 1
  | .agg parts => uptoBulkAll parts + 1
  | .iface _ d => uptoBulk d + 1
  | .map entries => uptoBulkEntries entries + 1
  | .held _ => 1
def uptoBulkAll {H : Type} : List (DataW H) → Nat
  | [] => 0
  | d :: r => uptoBulk d + uptoBulkAll r
def uptoBulkEntries {H : Type} : List (Lit × DataW H) → Nat
  | [] => 0
  | x :: r => uptoBulkEntry x + uptoBulkEntries r
def uptoBulkEntry {H : Type} : Lit × DataW H → Nat
  | (.string bytes, d) => bytes.length + uptoBulk d + 1
  | (_, d) => uptoBulk d + 1
 end
def uptoSmall : (H : Type) → List (DataW H) → Bool := fun _ ds => decide (uptoBulkAll ds ≤ 1048576)
def OpenSpec.upto (s : _root_.Go.ChangeSpec) : _root_.Go.OpenSpec := { _root_.Go.OpenSpec.ofChange s with cond := some uptoSmall }

/-- 'catenarylaw22.CraqWaits', WHERE WHAT IT READS IS OF BULK AT MOST 1048576: true; the input reads as it did. -/
def craqWaitsUptoRow : OpenClaim := { program := "ytgjfaieghmigjaagreatdoor", sum := "c8bee5e2a9f22b3718653f25b08a38da6811eeb2f285d73b86c28987a181a83b", func := "catenary/catenarylaw22.CraqWaits", spec := "craqWaits", unfollowed := true, recurses := true, named := ["catenary/letter.kinds"], apart := false, laid := [("catenary/letter.kinds", laid_catenary_letter_kinds)], narrowed := true }
def CraqWaitsUptoSaid : Prop := craqWaitsUptoRow.holds Tryz.pinned (OpenSpec.upto craqWaitsSpec)

/-- 'catenarylaw18.StoreRoom', WHERE WHAT IT READS IS OF BULK AT MOST 1048576: true; the input reads as it did. -/
def storeRoomUptoRow : OpenClaim := { program := "ytgjfaieghmigjaagreatdoor", sum := "c8bee5e2a9f22b3718653f25b08a38da6811eeb2f285d73b86c28987a181a83b", func := "catenary/catenarylaw18.StoreRoom", spec := "storeRoom", unfollowed := true, recurses := true, named := ["catenary/letter.kinds"], apart := false, laid := [("catenary/letter.kinds", laid_catenary_letter_kinds)], narrowed := true }
def StoreRoomUptoSaid : Prop := storeRoomUptoRow.holds Tryz.pinned (OpenSpec.upto storeRoomSpec)

/-- 'catenarylaw22.CraqAnswers', WHERE WHAT IT READS IS OF BULK AT MOST 1048576: true; the input reads as it did. -/
def craqAnswersUptoRow : OpenClaim := { program := "ytgjfaieghmigjaagreatdoor", sum := "c8bee5e2a9f22b3718653f25b08a38da6811eeb2f285d73b86c28987a181a83b", func := "catenary/catenarylaw22.CraqAnswers", spec := "craqAnswers", unfollowed := true, recurses := true, named := ["catenary/letter.kinds"], apart := false, laid := [("catenary/letter.kinds", laid_catenary_letter_kinds)], narrowed := true }
def CraqAnswersUptoSaid : Prop := craqAnswersUptoRow.holds Tryz.pinned (OpenSpec.upto craqAnswersSpec)

/-- 'catenarylaw22.CraqNewer', WHERE WHAT IT READS IS OF BULK AT MOST 1048576: true; the input reads as it did. -/
def craqNewerUptoRow : OpenClaim := { program := "ytgjfaieghmigjaagreatdoor", sum := "c8bee5e2a9f22b3718653f25b08a38da6811eeb2f285d73b86c28987a181a83b", func := "catenary/catenarylaw22.CraqNewer", spec := "craqNewer", unfollowed := true, recurses := true, named := ["catenary/letter.kinds"], apart := false, laid := [("catenary/letter.kinds", laid_catenary_letter_kinds)], narrowed := true }
def CraqNewerUptoSaid : Prop := craqNewerUptoRow.holds Tryz.pinned (OpenSpec.upto craqNewerSpec)

/-- 'catenarylaw18.StoreGoesOn', WHERE WHAT IT READS IS OF BULK AT MOST 1048576: true; the input reads as it did. -/
def storeGoesOnUptoRow : OpenClaim := { program := "ytgjfaieghmigjaagreatdoor", sum := "c8bee5e2a9f22b3718653f25b08a38da6811eeb2f285d73b86c28987a181a83b", func := "catenary/catenarylaw18.StoreGoesOn", spec := "storeGoesOn", unfollowed := true, recurses := true, named := ["catenary/letter.kinds"], apart := false, laid := [("catenary/letter.kinds", laid_catenary_letter_kinds)], narrowed := true }
def StoreGoesOnUptoSaid : Prop := storeGoesOnUptoRow.holds Tryz.pinned (OpenSpec.upto storeGoesOnSpec)

/-- 'catenarylaw18.StorePlays', WHERE WHAT IT READS IS OF BULK AT MOST 1048576: true; the input reads as it did. -/
def storePlaysUptoRow : OpenClaim := { program := "ytgjfaieghmigjaagreatdoor", sum := "c8bee5e2a9f22b3718653f25b08a38da6811eeb2f285d73b86c28987a181a83b", func := "catenary/catenarylaw18.StorePlays", spec := "storePlays", unfollowed := true, recurses := true, named := ["catenary/letter.kinds"], apart := false, laid := [("catenary/letter.kinds", laid_catenary_letter_kinds)], narrowed := true }
def StorePlaysUptoSaid : Prop := storePlaysUptoRow.holds Tryz.pinned (OpenSpec.upto storePlaysSpec)

/-- 'catenarylaw18.StoreNil', WHERE WHAT IT READS IS OF BULK AT MOST 1048576: true; the input reads as it did. -/
def storeNilUptoRow : OpenClaim := { program := "ytgjfaieghmigjaagreatdoor", sum := "c8bee5e2a9f22b3718653f25b08a38da6811eeb2f285d73b86c28987a181a83b", func := "catenary/catenarylaw18.StoreNil", spec := "storeNil", unfollowed := true, recurses := true, named := ["catenary/letter.kinds"], apart := false, laid := [("catenary/letter.kinds", laid_catenary_letter_kinds)], narrowed := true }
def StoreNilUptoSaid : Prop := storeNilUptoRow.holds Tryz.pinned (OpenSpec.upto storeNilSpec)

/-- 'catenarylaw18.StoreLoads', WHERE WHAT IT READS IS OF BULK AT MOST 1048576: true; the input reads as it did. -/
def storeLoadsUptoRow : OpenClaim := { program := "ytgjfaieghmigjaagreatdoor", sum := "c8bee5e2a9f22b3718653f25b08a38da6811eeb2f285d73b86c28987a181a83b", func := "catenary/catenarylaw18.StoreLoads", spec := "storeLoads", unfollowed := true, recurses := true, named := ["catenary/letter.kinds"], apart := false, laid := [("catenary/letter.kinds", laid_catenary_letter_kinds)], narrowed := true }
def StoreLoadsUptoSaid : Prop := storeLoadsUptoRow.holds Tryz.pinned (OpenSpec.upto storeLoadsSpec)

end Rows
end Go.Proofs.YtgjfaieghmigjaaGreatDoor
