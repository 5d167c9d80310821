/-
  Part 44 of the library that the proof leans on.
-/
import Derived.Test.YteoljjhhdgplnaaGreatDoorL31
namespace Go.M
set_option maxRecDepth 1000000
theorem agX:cU 4 54=true:=by decide+kernel
theorem acb:cU 4 60=true:=by decide+kernel
theorem acd:cU 4 66=true:=by decide+kernel
end Go.M
