/-
  Part 18 of the library that the proof leans on.
-/
import Derived.Test.YtjklkjjfnipcnaaGreatDoorL11
noncomputable section
namespace Go.M
open Go
variable {E:Env} {base:Nat}
end Go.M
end
