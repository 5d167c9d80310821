/-
  Part 45 of the library that the proof leans on.
-/
import Derived.Test.YteoljjhhdgplnaaGreatDoorL31
namespace Go.M
set_option maxRecDepth 1000000
theorem ace:cU 4 72=true:=by decide+kernel
theorem acf:cU 4 78=true:=by decide+kernel
theorem acg:cU 4 84=true:=by decide+kernel
end Go.M
