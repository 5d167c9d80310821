/-
  Part 42 of the library that the proof leans on.
-/
import Derived.Test.YteoljjhhdgplnaaGreatDoorL31
namespace Go.M
set_option maxRecDepth 1000000
theorem agR:cU 4 18=true:=by decide+kernel
theorem agS:cU 4 24=true:=by decide+kernel
theorem agT:cU 4 30=true:=by decide+kernel
end Go.M
