/-
  Part 36 of the library that the proof leans on.
-/
import Derived.Test.YteoljjhhdgplnaaGreatDoorL31
namespace Go.M
set_option maxRecDepth 1000000
theorem ab1:cU 2 60=true:=by decide+kernel
theorem ab2:cU 2 66=true:=by decide+kernel
theorem ab3:cU 2 72=true:=by decide+kernel
theorem ab4:cU 2 78=true:=by decide+kernel
theorem ab5:cU 2 84=true:=by decide+kernel
end Go.M
