/-
  Part 25 of the library that the proof leans on.
-/
import Derived.Test.YtgjfaieghmigjaaGreatDoorL24
namespace Go.M
open Go Go.Proofs
set_option maxRecDepth 100000
set_option maxHeartbeats 4000000
def okU (u:UpR):Bool:= !decide (u.seq=0)&&(decide (1≤u.client∧u.client≤6)&&(decide (1≤u.num)&&((decide (u.kind=2∧u.ver=0∨u.kind=3))&&decide (u.data.length≤2048))))
end Go.M
