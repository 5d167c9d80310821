/-
  No cell of these rows narrows 'for every input' (looked for: loops, veiled, ifaces, maps, wideKeys, modest, calm, conditions, laid).
  DERIVED. THE GIVEN ROWS OF THIS SEAT. 10 by the template 'for every input the law returns true; each argument reads behind the call as it read before'; 0 by the template 'total and deterministic' (their statements: YtmookciakjmjiaaTotals.lean).
  GIVEN WITH THE SEED: the statements are not yours to turn. If you find one false, say at which input.
  Laid BY PROGRAM, IN A SANDBOX (cutbox-rows.mjs): the forced cells as the released guide's own fill.sh prints them over the translation 1fb215fba41296f5… (all of the seat's roots in one cut). By AI agents, Wed Nov 11 2026. No macro, syntax, notation, axiom, sorry.
-/
import Derived.Test.YtmookciakjmjiaaChecked
import GoSem.Claim
import GoSem.ClaimJoined
import GoSem.ClaimMapViews
import Derived.JoinedTies
import Derived.KernelRfl
namespace Go.Proofs.Ytmookciakjmjiaa
/- THE CELL 'sum', in the pinned program and in every row, IS THE sha256 OF THE DUMP (.gsa) THAT YtmookciakjmjiaaProg.lean LOADS. Nothing in Lean hashes anything: it is a label: what it is worth is what the hold of that sum in a sandbox is worth. -/
noncomputable def Try.pinned : Pinned := { name := "ytmookciakjmjiaa", sum := "1fb215fba41296f51e0c26d66afdb402f85d26536386535e5d9b759406bc4f03", checked := Try.checked }
namespace Rows
def none {H : Type} : Left H := { results := [], args := [] }

/-- 'catenarylaw12.ChosenOrder': WHATEVER THE INPUT: true; the input reads as it did. -/
def chosenOrderSpec : ChangeSpec := { name := "chosenOrder", fn := fun _ => fun
  | [d1, d2, d3] => { results := [.lit (.bool true)], args := [d1, d2, d3] }
  | _ => none }
def chosenOrderRow : OpenClaim := { program := "ytmookciakjmjiaa", sum := "1fb215fba41296f51e0c26d66afdb402f85d26536386535e5d9b759406bc4f03", func := "catenary/catenarylaw12.ChosenOrder", spec := "chosenOrder", unfollowed := true, recurses := true, apart := false }
def ChosenOrderSaid : Prop := chosenOrderRow.holds Try.pinned (OpenSpec.ofChange chosenOrderSpec)

/-- ITS FALSE NEIGHBOUR: 'it returns false'. Refute it at one input. -/
def chosenOrderWrong : ChangeSpec := { name := "chosenOrder", fn := fun _ => fun
  | [d1, d2, d3] => { results := [.lit (.bool false)], args := [d1, d2, d3] }
  | _ => none }
def ChosenOrderWrongFalsely : Prop := chosenOrderRow.holds Try.pinned (OpenSpec.ofChange chosenOrderWrong)

/-- 'catenarylaw12.ChosenOwn': WHATEVER THE INPUT: true; the input reads as it did. -/
def chosenOwnSpec : ChangeSpec := { name := "chosenOwn", fn := fun _ => fun
  | [d1, d2, d3] => { results := [.lit (.bool true)], args := [d1, d2, d3] }
  | _ => none }
def chosenOwnRow : OpenClaim := { program := "ytmookciakjmjiaa", sum := "1fb215fba41296f51e0c26d66afdb402f85d26536386535e5d9b759406bc4f03", func := "catenary/catenarylaw12.ChosenOwn", spec := "chosenOwn", unfollowed := true, recurses := true, apart := false }
def ChosenOwnSaid : Prop := chosenOwnRow.holds Try.pinned (OpenSpec.ofChange chosenOwnSpec)

/-- ITS FALSE NEIGHBOUR: 'it returns false'. Refute it at one input. -/
def chosenOwnWrong : ChangeSpec := { name := "chosenOwn", fn := fun _ => fun
  | [d1, d2, d3] => { results := [.lit (.bool false)], args := [d1, d2, d3] }
  | _ => none }
def ChosenOwnWrongFalsely : Prop := chosenOwnRow.holds Try.pinned (OpenSpec.ofChange chosenOwnWrong)

/-- 'catenarylaw12.ChosenPlays': WHATEVER THE INPUT: true; the input reads as it did. -/
def chosenPlaysSpec : ChangeSpec := { name := "chosenPlays", fn := fun _ => fun
  | [d1, d2, d3] => { results := [.lit (.bool true)], args := [d1, d2, d3] }
  | _ => none }
def chosenPlaysRow : OpenClaim := { program := "ytmookciakjmjiaa", sum := "1fb215fba41296f51e0c26d66afdb402f85d26536386535e5d9b759406bc4f03", func := "catenary/catenarylaw12.ChosenPlays", spec := "chosenPlays", unfollowed := true, recurses := true, apart := false }
def ChosenPlaysSaid : Prop := chosenPlaysRow.holds Try.pinned (OpenSpec.ofChange chosenPlaysSpec)

/-- ITS FALSE NEIGHBOUR: 'it returns false'. Refute it at one input. -/
def chosenPlaysWrong : ChangeSpec := { name := "chosenPlays", fn := fun _ => fun
  | [d1, d2, d3] => { results := [.lit (.bool false)], args := [d1, d2, d3] }
  | _ => none }
def ChosenPlaysWrongFalsely : Prop := chosenPlaysRow.holds Try.pinned (OpenSpec.ofChange chosenPlaysWrong)

/-- 'catenarylaw12.ChosenNil': WHATEVER THE INPUT: true; the input reads as it did. -/
def chosenNilSpec : ChangeSpec := { name := "chosenNil", fn := fun _ => fun
  | [d1, d2] => { results := [.lit (.bool true)], args := [d1, d2] }
  | _ => none }
def chosenNilRow : OpenClaim := { program := "ytmookciakjmjiaa", sum := "1fb215fba41296f51e0c26d66afdb402f85d26536386535e5d9b759406bc4f03", func := "catenary/catenarylaw12.ChosenNil", spec := "chosenNil", unfollowed := true, recurses := true, apart := false }
def ChosenNilSaid : Prop := chosenNilRow.holds Try.pinned (OpenSpec.ofChange chosenNilSpec)

/-- ITS FALSE NEIGHBOUR: 'it returns false'. Refute it at one input. -/
def chosenNilWrong : ChangeSpec := { name := "chosenNil", fn := fun _ => fun
  | [d1, d2] => { results := [.lit (.bool false)], args := [d1, d2] }
  | _ => none }
def ChosenNilWrongFalsely : Prop := chosenNilRow.holds Try.pinned (OpenSpec.ofChange chosenNilWrong)

/-- 'catenarylaw11.AcceptPlays': WHATEVER THE INPUT: true; the input reads as it did. -/
def acceptPlaysSpec : ChangeSpec := { name := "acceptPlays", fn := fun _ => fun
  | [d1, d2] => { results := [.lit (.bool true)], args := [d1, d2] }
  | _ => none }
def acceptPlaysRow : OpenClaim := { program := "ytmookciakjmjiaa", sum := "1fb215fba41296f51e0c26d66afdb402f85d26536386535e5d9b759406bc4f03", func := "catenary/catenarylaw11.AcceptPlays", spec := "acceptPlays", unfollowed := true, recurses := true, apart := false }
def AcceptPlaysSaid : Prop := acceptPlaysRow.holds Try.pinned (OpenSpec.ofChange acceptPlaysSpec)

/-- ITS FALSE NEIGHBOUR: 'it returns false'. Refute it at one input. -/
def acceptPlaysWrong : ChangeSpec := { name := "acceptPlays", fn := fun _ => fun
  | [d1, d2] => { results := [.lit (.bool false)], args := [d1, d2] }
  | _ => none }
def AcceptPlaysWrongFalsely : Prop := acceptPlaysRow.holds Try.pinned (OpenSpec.ofChange acceptPlaysWrong)

/-- 'catenarylaw11.AcceptRises': WHATEVER THE INPUT: true; the input reads as it did. -/
def acceptRisesSpec : ChangeSpec := { name := "acceptRises", fn := fun _ => fun
  | [d] => { results := [.lit (.bool true)], args := [d] }
  | _ => none }
def acceptRisesRow : OpenClaim := { program := "ytmookciakjmjiaa", sum := "1fb215fba41296f51e0c26d66afdb402f85d26536386535e5d9b759406bc4f03", func := "catenary/catenarylaw11.AcceptRises", spec := "acceptRises", unfollowed := true, recurses := true, apart := false }
def AcceptRisesSaid : Prop := acceptRisesRow.holds Try.pinned (OpenSpec.ofChange acceptRisesSpec)

/-- ITS FALSE NEIGHBOUR: 'it returns false'. Refute it at one input. -/
def acceptRisesWrong : ChangeSpec := { name := "acceptRises", fn := fun _ => fun
  | [d] => { results := [.lit (.bool false)], args := [d] }
  | _ => none }
def AcceptRisesWrongFalsely : Prop := acceptRisesRow.holds Try.pinned (OpenSpec.ofChange acceptRisesWrong)

/-- 'catenarylaw11.AcceptNil': WHATEVER THE INPUT: true; the input reads as it did. -/
def acceptNilSpec : ChangeSpec := { name := "acceptNil", fn := fun _ => fun
  | [d] => { results := [.lit (.bool true)], args := [d] }
  | _ => none }
def acceptNilRow : OpenClaim := { program := "ytmookciakjmjiaa", sum := "1fb215fba41296f51e0c26d66afdb402f85d26536386535e5d9b759406bc4f03", func := "catenary/catenarylaw11.AcceptNil", spec := "acceptNil", unfollowed := true, recurses := true, apart := false }
def AcceptNilSaid : Prop := acceptNilRow.holds Try.pinned (OpenSpec.ofChange acceptNilSpec)

/-- ITS FALSE NEIGHBOUR: 'it returns false'. Refute it at one input. -/
def acceptNilWrong : ChangeSpec := { name := "acceptNil", fn := fun _ => fun
  | [d] => { results := [.lit (.bool false)], args := [d] }
  | _ => none }
def AcceptNilWrongFalsely : Prop := acceptNilRow.holds Try.pinned (OpenSpec.ofChange acceptNilWrong)

/-- 'catenarylaw11.AcceptBest': WHATEVER THE INPUT: true; the input reads as it did. -/
def acceptBestSpec : ChangeSpec := { name := "acceptBest", fn := fun _ => fun
  | [d] => { results := [.lit (.bool true)], args := [d] }
  | _ => none }
def acceptBestRow : OpenClaim := { program := "ytmookciakjmjiaa", sum := "1fb215fba41296f51e0c26d66afdb402f85d26536386535e5d9b759406bc4f03", func := "catenary/catenarylaw11.AcceptBest", spec := "acceptBest", unfollowed := true, recurses := true, apart := false }
def AcceptBestSaid : Prop := acceptBestRow.holds Try.pinned (OpenSpec.ofChange acceptBestSpec)

/-- ITS FALSE NEIGHBOUR: 'it returns false'. Refute it at one input. -/
def acceptBestWrong : ChangeSpec := { name := "acceptBest", fn := fun _ => fun
  | [d] => { results := [.lit (.bool false)], args := [d] }
  | _ => none }
def AcceptBestWrongFalsely : Prop := acceptBestRow.holds Try.pinned (OpenSpec.ofChange acceptBestWrong)

/-- 'catenarylaw13.LeadChooses': WHATEVER THE INPUT: true; the input reads as it did. -/
def leadChoosesSpec : ChangeSpec := { name := "leadChooses", fn := fun _ => fun
  | [d1, d2, d3] => { results := [.lit (.bool true)], args := [d1, d2, d3] }
  | _ => none }
def leadChoosesRow : OpenClaim := { program := "ytmookciakjmjiaa", sum := "1fb215fba41296f51e0c26d66afdb402f85d26536386535e5d9b759406bc4f03", func := "catenary/catenarylaw13.LeadChooses", spec := "leadChooses", unfollowed := true, recurses := true, apart := false }
def LeadChoosesSaid : Prop := leadChoosesRow.holds Try.pinned (OpenSpec.ofChange leadChoosesSpec)

/-- ITS FALSE NEIGHBOUR: 'it returns false'. Refute it at one input. -/
def leadChoosesWrong : ChangeSpec := { name := "leadChooses", fn := fun _ => fun
  | [d1, d2, d3] => { results := [.lit (.bool false)], args := [d1, d2, d3] }
  | _ => none }
def LeadChoosesWrongFalsely : Prop := leadChoosesRow.holds Try.pinned (OpenSpec.ofChange leadChoosesWrong)

/-- 'catenarylaw13.LeadPlays': WHATEVER THE INPUT: true; the input reads as it did. -/
def leadPlaysSpec : ChangeSpec := { name := "leadPlays", fn := fun _ => fun
  | [d1, d2, d3] => { results := [.lit (.bool true)], args := [d1, d2, d3] }
  | _ => none }
def leadPlaysRow : OpenClaim := { program := "ytmookciakjmjiaa", sum := "1fb215fba41296f51e0c26d66afdb402f85d26536386535e5d9b759406bc4f03", func := "catenary/catenarylaw13.LeadPlays", spec := "leadPlays", unfollowed := true, recurses := true, apart := false }
def LeadPlaysSaid : Prop := leadPlaysRow.holds Try.pinned (OpenSpec.ofChange leadPlaysSpec)

/-- ITS FALSE NEIGHBOUR: 'it returns false'. Refute it at one input. -/
def leadPlaysWrong : ChangeSpec := { name := "leadPlays", fn := fun _ => fun
  | [d1, d2, d3] => { results := [.lit (.bool false)], args := [d1, d2, d3] }
  | _ => none }
def LeadPlaysWrongFalsely : Prop := leadPlaysRow.holds Try.pinned (OpenSpec.ofChange leadPlaysWrong)

/- THE SECOND FORM. 'bulk': how many values and letters a reading holds, each counted each time it is reached (what is shared counts as often as it is met; a slice's spare places count too). A statement '..UptoSaid' is the law's where the arguments, and the package variables that the reading takes, are together of bulk at most 1048576: NARROWER than '..Said'. Prove '..Said' where nothing that the law and all that it calls make is longer than what came in: it says more and counts as full. Else prove '..UptoSaid'. A law counts once. -/
mutual
def uptoBulk {H : Type} : DataW H → Nat
  | .lit (.string bytes) => bytes.length + 1
  | .lit _ => 1
  | .nil => 1
  | .ptr d => uptoBulk d + 1
  | .slice elems spare => uptoBulkAll elems + uptoBulkAll spare + 1
  | .agg parts => uptoBulkAll parts + 1
  | .iface _ d => uptoBulk d + 1
  | .map entries => uptoBulkEntries entries + 1
  | .held _ => 1
def uptoBulkAll {H : Type} : List (DataW H) → Nat
  | [] => 0
  | d :: r => uptoBulk d + uptoBulkAll r
def uptoBulkEntries {H : Type} : List (Lit × DataW H) → Nat
  | [] => 0
  | x :: r => uptoBulkEntry x + uptoBulkEntries r
def uptoBulkEntry {H : Type} : Lit × DataW H → Nat
  | (.string bytes, d) => bytes.length + uptoBulk d + 1
  | (_, d) => uptoBulk d + 1
 end
def uptoSmall : (H : Type) → List (DataW H) → Bool := fun _ ds => decide (uptoBulkAll ds ≤ 1048576)
def OpenSpec.upto (s : _root_.Go.ChangeSpec) : _root_.Go.OpenSpec := { _root_.Go.OpenSpec.ofChange s with cond := some uptoSmall }

/-- 'catenarylaw12.ChosenOrder', WHERE WHAT IT READS IS OF BULK AT MOST 1048576: true; the input reads as it did. -/
def chosenOrderUptoRow : OpenClaim := { program := "ytmookciakjmjiaa", sum := "1fb215fba41296f51e0c26d66afdb402f85d26536386535e5d9b759406bc4f03", func := "catenary/catenarylaw12.ChosenOrder", spec := "chosenOrder", unfollowed := true, recurses := true, apart := false, narrowed := true }
def ChosenOrderUptoSaid : Prop := chosenOrderUptoRow.holds Try.pinned (OpenSpec.upto chosenOrderSpec)

/-- 'catenarylaw12.ChosenOwn', WHERE WHAT IT READS IS OF BULK AT MOST 1048576: true; the input reads as it did. -/
def chosenOwnUptoRow : OpenClaim := { program := "ytmookciakjmjiaa", sum := "1fb215fba41296f51e0c26d66afdb402f85d26536386535e5d9b759406bc4f03", func := "catenary/catenarylaw12.ChosenOwn", spec := "chosenOwn", unfollowed := true, recurses := true, apart := false, narrowed := true }
def ChosenOwnUptoSaid : Prop := chosenOwnUptoRow.holds Try.pinned (OpenSpec.upto chosenOwnSpec)

/-- 'catenarylaw12.ChosenPlays', WHERE WHAT IT READS IS OF BULK AT MOST 1048576: true; the input reads as it did. -/
def chosenPlaysUptoRow : OpenClaim := { program := "ytmookciakjmjiaa", sum := "1fb215fba41296f51e0c26d66afdb402f85d26536386535e5d9b759406bc4f03", func := "catenary/catenarylaw12.ChosenPlays", spec := "chosenPlays", unfollowed := true, recurses := true, apart := false, narrowed := true }
def ChosenPlaysUptoSaid : Prop := chosenPlaysUptoRow.holds Try.pinned (OpenSpec.upto chosenPlaysSpec)

/-- 'catenarylaw12.ChosenNil', WHERE WHAT IT READS IS OF BULK AT MOST 1048576: true; the input reads as it did. -/
def chosenNilUptoRow : OpenClaim := { program := "ytmookciakjmjiaa", sum := "1fb215fba41296f51e0c26d66afdb402f85d26536386535e5d9b759406bc4f03", func := "catenary/catenarylaw12.ChosenNil", spec := "chosenNil", unfollowed := true, recurses := true, apart := false, narrowed := true }
def ChosenNilUptoSaid : Prop := chosenNilUptoRow.holds Try.pinned (OpenSpec.upto chosenNilSpec)

/-- 'catenarylaw11.AcceptPlays', WHERE WHAT IT READS IS OF BULK AT MOST 1048576: true; the input reads as it did. -/
def acceptPlaysUptoRow : OpenClaim := { program := "ytmookciakjmjiaa", sum := "1fb215fba41296f51e0c26d66afdb402f85d26536386535e5d9b759406bc4f03", func := "catenary/catenarylaw11.AcceptPlays", spec := "acceptPlays", unfollowed := true, recurses := true, apart := false, narrowed := true }
def AcceptPlaysUptoSaid : Prop := acceptPlaysUptoRow.holds Try.pinned (OpenSpec.upto acceptPlaysSpec)

/-- 'catenarylaw11.AcceptRises', WHERE WHAT IT READS IS OF BULK AT MOST 1048576: true; the input reads as it did. -/
def acceptRisesUptoRow : OpenClaim := { program := "ytmookciakjmjiaa", sum := "1fb215fba41296f51e0c26d66afdb402f85d26536386535e5d9b759406bc4f03", func := "catenary/catenarylaw11.AcceptRises", spec := "acceptRises", unfollowed := true, recurses := true, apart := false, narrowed := true }
def AcceptRisesUptoSaid : Prop := acceptRisesUptoRow.holds Try.pinned (OpenSpec.upto acceptRisesSpec)

/-- 'catenarylaw11.AcceptNil', WHERE WHAT IT READS IS OF BULK AT MOST 1048576: true; the input reads as it did. -/
def acceptNilUptoRow : OpenClaim := { program := "ytmookciakjmjiaa", sum := "1fb215fba41296f51e0c26d66afdb402f85d26536386535e5d9b759406bc4f03", func := "catenary/catenarylaw11.AcceptNil", spec := "acceptNil", unfollowed := true, recurses := true, apart := false, narrowed := true }
def AcceptNilUptoSaid : Prop := acceptNilUptoRow.holds Try.pinned (OpenSpec.upto acceptNilSpec)

/-- 'catenarylaw11.AcceptBest', WHERE WHAT IT READS IS OF BULK AT MOST 1048576: true; the input reads as it did. -/
def acceptBestUptoRow : OpenClaim := { program := "ytmookciakjmjiaa", sum := "1fb215fba41296f51e0c26d66afdb402f85d26536386535e5d9b759406bc4f03", func := "catenary/catenarylaw11.AcceptBest", spec := "acceptBest", unfollowed := true, recurses := true, apart := false, narrowed := true }
def AcceptBestUptoSaid : Prop := acceptBestUptoRow.holds Try.pinned (OpenSpec.upto acceptBestSpec)

/-- 'catenarylaw13.LeadChooses', WHERE WHAT IT READS IS OF BULK AT MOST 1048576: true; the input reads as it did. -/
def leadChoosesUptoRow : OpenClaim := { program := "ytmookciakjmjiaa", sum := "1fb215fba41296f51e0c26d66afdb402f85d26536386535e5d9b759406bc4f03", func := "catenary/catenarylaw13.LeadChooses", spec := "leadChooses", unfollowed := true, recurses := true, apart := false, narrowed := true }
def LeadChoosesUptoSaid : Prop := leadChoosesUptoRow.holds Try.pinned (OpenSpec.upto leadChoosesSpec)

/-- 'catenarylaw13.LeadPlays', WHERE WHAT IT READS IS OF BULK AT MOST 1048576: true; the input reads as it did. -/
def leadPlaysUptoRow : OpenClaim := { program := "ytmookciakjmjiaa", sum := "1fb215fba41296f51e0c26d66afdb402f85d26536386535e5d9b759406bc4f03", func := "catenary/catenarylaw13.LeadPlays", spec := "leadPlays", unfollowed := true, recurses := true, apart := false, narrowed := true }
def LeadPlaysUptoSaid : Prop := leadPlaysUptoRow.holds Try.pinned (OpenSpec.upto leadPlaysSpec)

end Rows
end Go.Proofs.Ytmookciakjmjiaa
