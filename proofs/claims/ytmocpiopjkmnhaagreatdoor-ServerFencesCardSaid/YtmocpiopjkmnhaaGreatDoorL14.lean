/-
  Part 14 of the library that the proof leans on.
-/
import Derived.Test.YtmocpiopjkmnhaaGreatDoorL11
namespace Go.M
open Go
variable {E:Env} {base:Nat}
end Go.M
