/-
  Part 32 of the library that the proof leans on.
-/
import Derived.Test.YteoljjhhdgplnaaGreatDoorL31
namespace Go.M
set_option maxRecDepth 1000000
theorem agk:cU 1 0=true:=by decide+kernel
theorem agl:cU 1 6=true:=by decide+kernel
theorem agm:cU 1 12=true:=by decide+kernel
theorem agn:cU 1 18=true:=by decide+kernel
theorem ago:cU 1 24=true:=by decide+kernel
theorem agp:cU 1 30=true:=by decide+kernel
theorem agq:cU 1 36=true:=by decide+kernel
end Go.M
