/-
  Part 31 of the library that the proof leans on.
-/
import Derived.Test.YtgjfaieghmigjaaGreatDoorL13
import Derived.KernelRfl
namespace Go.M
open Go Go.Proofs
set_option maxRecDepth 1000000
theorem mixed0:Tryz.prog.follows .mixedOrders=true:=by kernel_rfl
theorem tabsB0:tabsB tabs0 1=true:=by kernel_rfl
theorem awake22:AwakeT Tryz.prog tabs0 21:=awakeT_of (n:=1) mixed0 tabsB0 (fs:=[66]) (bs:=[]) (ps:=[]) (m:=100000) (k:=100000) (by kernel_rfl)
theorem awake18:AwakeT Tryz.prog tabs0 26:=awakeT_of (n:=1) mixed0 tabsB0 (fs:=[66]) (bs:=[]) (ps:=[]) (m:=100000) (k:=100000) (by kernel_rfl)
end Go.M
