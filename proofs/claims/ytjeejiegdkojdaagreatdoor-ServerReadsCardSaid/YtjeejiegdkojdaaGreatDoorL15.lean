/-
  Part 15 of the library that the proof leans on.
-/
import Derived.Test.YtjeejiegdkojdaaGreatDoorL11
namespace Go.M
open Go
variable {E:Env} {base:Nat}
end Go.M
