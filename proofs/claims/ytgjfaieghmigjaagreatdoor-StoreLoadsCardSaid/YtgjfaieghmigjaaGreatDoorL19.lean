/-
  Part 19 of the library that the proof leans on.
-/
import Derived.Test.YtgjfaieghmigjaaGreatDoorL11
namespace Go.M
open Go
variable {E:Env} {base:Nat}
end Go.M
