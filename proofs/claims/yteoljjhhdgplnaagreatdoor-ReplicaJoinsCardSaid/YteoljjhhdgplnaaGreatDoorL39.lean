/-
  Part 39 of the library that the proof leans on.
-/
import Derived.Test.YteoljjhhdgplnaaGreatDoorL31
namespace Go.M
set_option maxRecDepth 1000000
theorem agL:cU 3 42=true:=by decide+kernel
theorem agM:cU 3 48=true:=by decide+kernel
theorem agN:cU 3 54=true:=by decide+kernel
theorem ab6:cU 3 60=true:=by decide+kernel
end Go.M
