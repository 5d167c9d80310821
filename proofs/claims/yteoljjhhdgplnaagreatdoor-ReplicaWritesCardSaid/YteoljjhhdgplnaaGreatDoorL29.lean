/-
  Part 29 of the library that the proof leans on.
-/
import Derived.Test.YteoljjhhdgplnaaGreatDoorL23
namespace Go.M
open Go Go.Proofs
set_option maxRecDepth 1000000
theorem aaB:(As 4 29).2=true:=by decide+kernel
end Go.M
