/-
  Part 35 of the library that the proof leans on.
-/
import Derived.Test.YteoljjhhdgplnaaGreatDoorL31
namespace Go.M
set_option maxRecDepth 1000000
theorem agz:cU 2 30=true:=by decide+kernel
theorem agA:cU 2 36=true:=by decide+kernel
theorem agB:cU 2 42=true:=by decide+kernel
theorem agC:cU 2 48=true:=by decide+kernel
theorem agD:cU 2 54=true:=by decide+kernel
end Go.M
