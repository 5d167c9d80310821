/-
  Part 33 of the library that the proof leans on.
-/
import Derived.Test.YteoljjhhdgplnaaGreatDoorL31
namespace Go.M
set_option maxRecDepth 1000000
theorem agr:cU 1 42=true:=by decide+kernel
theorem ags:cU 1 48=true:=by decide+kernel
theorem agt:cU 1 54=true:=by decide+kernel
theorem abW:cU 1 60=true:=by decide+kernel
theorem abX:cU 1 66=true:=by decide+kernel
theorem abY:cU 1 72=true:=by decide+kernel
theorem abZ:cU 1 78=true:=by decide+kernel
theorem ab0:cU 1 84=true:=by decide+kernel
end Go.M
