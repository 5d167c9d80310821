/-
  Part 24 of the library that the proof leans on.
-/
import Derived.Test.YtgjfaieghmigjaaGreatDoorL23
namespace Go.M
open Go Go.Proofs
set_option maxRecDepth 100000
set_option maxHeartbeats 4000000
@[reducible] def zCF:List TV:=[.s (.int .i64 0),.s (.int .u64 0),.sl 1 [] false,.s (.bool false),.s (.int .i64 0)]
@[reducible] def prtS1 (i j:Nat):List TV:=[.clo 203 [] [],.clo 220 [] [.ptr i 0,.ptr j 0],.clo 221 [] [.ptr j 0,.ptr i 0]]
@[reducible] def prtW (g:Nat) (i:Nat):List TV:=[.clo g [] [],.clo 222 [] [.ptr i 0],.clo 223 [] [.ptr i 0]]
@[reducible] def prtU:List TV:=[.clo 244 [] [],.clo 245 [] [],.clo 246 [] []]
@[reducible] def boxF (g:Nat):TO:=.cells [.clo g [] []]
@[reducible] def boxI (k:Int):TO:=.cells [.s (.int .i64 k)]
@[reducible] def z3:List TV:=[.s .nilFunc,.s .nilFunc,.s .nilFunc]
end Go.M
