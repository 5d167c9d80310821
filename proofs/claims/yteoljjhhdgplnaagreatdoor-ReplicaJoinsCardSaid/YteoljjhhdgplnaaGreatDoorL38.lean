/-
  Part 38 of the library that the proof leans on.
-/
import Derived.Test.YteoljjhhdgplnaaGreatDoorL31
namespace Go.M
set_option maxRecDepth 1000000
theorem agH:cU 3 18=true:=by decide+kernel
theorem agI:cU 3 24=true:=by decide+kernel
theorem agJ:cU 3 30=true:=by decide+kernel
theorem agK:cU 3 36=true:=by decide+kernel
end Go.M
