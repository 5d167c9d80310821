/-
  Part 20 of the library that the proof leans on.
-/
import Derived.Test.YtjklkjjfnipcnaaGreatDoorL12
noncomputable section
namespace Go.M
open Go Go.RowKit
end Go.M
end
