/-
  Part 41 of the library that the proof leans on.
-/
import Derived.Test.YteoljjhhdgplnaaGreatDoorL31
namespace Go.M
set_option maxRecDepth 1000000
theorem agO:cU 4 0=true:=by decide+kernel
theorem agP:cU 4 6=true:=by decide+kernel
theorem agQ:cU 4 12=true:=by decide+kernel
end Go.M
