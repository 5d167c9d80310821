/-
  Part 16 of the library that the proof leans on.
-/
import Derived.Test.YtmocpiopjkmnhaaGreatDoorL9
namespace Go.M
open Go
end Go.M
