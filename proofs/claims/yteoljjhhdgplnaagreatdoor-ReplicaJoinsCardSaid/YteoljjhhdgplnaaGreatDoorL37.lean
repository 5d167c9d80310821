/-
  Part 37 of the library that the proof leans on.
-/
import Derived.Test.YteoljjhhdgplnaaGreatDoorL31
namespace Go.M
set_option maxRecDepth 1000000
theorem agE:cU 3 0=true:=by decide+kernel
theorem agF:cU 3 6=true:=by decide+kernel
theorem agG:cU 3 12=true:=by decide+kernel
end Go.M
