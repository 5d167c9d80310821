/-
  Part 17 of the library that the proof leans on.
-/
import Derived.Test.YtjklkjjfnipcnaaGreatDoorL12
import Derived.Test.YtjklkjjfnipcnaaGreatDoorL15
noncomputable section
namespace Go.M
open Go Go.Proofs
set_option maxRecDepth 100000
set_option maxHeartbeats 4000000
@[reducible] def T7:TV:=.sl 0 [] true
theorem C7:VC ES 125 0 [T7,nI 0,nI 0] [] (RR (.dH []) 0 []):=by
 refine VC.bo LS (show ES.func 125=some Tryz.f125 by kernel_rfl) (fun _ _=>rfl) rfl rfl [999999] ?_;refine wh ?_;refine rn ?_;exact⟨[],[],_,_,_,t3,rfl,rfl,rfl⟩
theorem KP (KN:Int):VC ES 85 0 [T7,nI 0,nI 0,.s (.int .i64 KN)] [] (RR (.dH []) 0 []):=by
 refine VC.bo LS (show ES.func 85=some Tryz.f85 by kernel_rfl) (fun _ _=>rfl) rfl rfl [999999] ?_;refine wh ?_;refine rn ?_;refine⟨[],[],_,_,_,_,C7,t3,cw ?_⟩;exact⟨[],[],_,_,_,t3,rfl,rfl,rfl⟩
theorem IG:VC ES 53 0 [T7] [] (RR (.dH []) 0 []):=by
 refine VC.bo LS (show ES.func 53=some Tryz.f53 by kernel_rfl) (fun _ _=>rfl) rfl rfl [] ?_;refine wh ?_;refine⟨[],[],_,_,_,_,IB (x:=IntKind.u64.wrap ((0:Nat):Int)) (n:=0) rfl om,t3,?_⟩;rintro r o' c' ⟨rfl,rfl,rfl⟩;refine wh ?_;refine⟨[],[],_,_,_,_,KP _,t3,cw ?_⟩;exact⟨[],[],_,_,_,t3,rfl,rfl,rfl⟩
end Go.M
end
