/-
  Part 40 of the library that the proof leans on.
-/
import Derived.Test.YteoljjhhdgplnaaGreatDoorL31
namespace Go.M
set_option maxRecDepth 1000000
theorem ab7:cU 3 66=true:=by decide+kernel
theorem ab8:cU 3 72=true:=by decide+kernel
theorem ab9:cU 3 78=true:=by decide+kernel
theorem aca:cU 3 84=true:=by decide+kernel
end Go.M
