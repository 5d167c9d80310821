/-
  Part 20 of the library that the proof leans on.
-/
import Derived.Test.YtgjfaieghmigjaaGreatDoorL9
namespace Go.M
open Go
end Go.M
