/-
  Part 25 of the library that the proof leans on.
-/
import Derived.Test.YteoljjhhdgplnaaGreatDoorL18
import Derived.KernelRfl
namespace Go.M
open Go Go.Proofs
set_option maxRecDepth 1000000
theorem EM:Tryz.prog.follows .mixedOrders=true:=by kernel_rfl
theorem Au:oM yq 1=true:=by kernel_rfl
theorem TE:D2 Tryz.prog yq 6:=HJ (n:=1) EM Au (fs:=[76]) (bs:=[]) (ps:=[]) (m:=100000) (k:=100000) (by kernel_rfl)
theorem aax (base B:Nat):iy Tryz.prog E0 base B:=by
 refine Ow Au (fun g hg=>?_) (fun base B=>OL EM base B) base B;simp only[List.mem_cons,List.not_mem_nil,or_false]at hg;rcases hg with rfl;exact TE
theorem sr:VC E0 6 0 [] [] (RR (.s (.bool true)) 0 []):=VC.mono (R:=fun r o c=>r= .s (.bool true)∧o=[]∧c=0)
 (VC.SG (g:=6) (aw:=[6]) Au (by show(Tryz.prog.funcs[6]?).isSome=true;kernel_rfl) rfl) fun _ _ _ h=>⟨h.1,h.2.2,h.2.1⟩
end Go.M
