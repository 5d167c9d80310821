/-
  Part 43 of the library that the proof leans on.
-/
import Derived.Test.YteoljjhhdgplnaaGreatDoorL31
namespace Go.M
set_option maxRecDepth 1000000
theorem agU:cU 4 36=true:=by decide+kernel
theorem agV:cU 4 42=true:=by decide+kernel
theorem agW:cU 4 48=true:=by decide+kernel
end Go.M
