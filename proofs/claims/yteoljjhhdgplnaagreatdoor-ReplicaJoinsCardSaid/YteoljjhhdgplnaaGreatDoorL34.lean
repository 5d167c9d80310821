/-
  Part 34 of the library that the proof leans on.
-/
import Derived.Test.YteoljjhhdgplnaaGreatDoorL31
namespace Go.M
set_option maxRecDepth 1000000
theorem agu:cU 2 0=true:=by decide+kernel
theorem agv:cU 2 6=true:=by decide+kernel
theorem agw:cU 2 12=true:=by decide+kernel
theorem agx:cU 2 18=true:=by decide+kernel
theorem agy:cU 2 24=true:=by decide+kernel
end Go.M
