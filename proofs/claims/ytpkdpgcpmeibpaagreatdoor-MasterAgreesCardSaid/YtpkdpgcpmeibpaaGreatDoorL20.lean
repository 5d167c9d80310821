/-
  Part 20 of the library that the proof leans on.
-/
import Derived.Test.YtpkdpgcpmeibpaaGreatDoorL12
import Derived.Test.YtpkdpgcpmeibpaaGreatDoorL19
namespace Go.M
open Go Go.Proofs
set_option maxRecDepth 100000
set_option maxHeartbeats 4000000
theorem Tj (vs:List ak) (hl:vs.length<1000000):VC E0 73 0 [c6 vs,c6 vs] [] (RR (.s (.bool true)) 0 []):=by
 refine en L0 Tryz.f73 ?_
 ((first|(refine⟨fun h_=>?_,fun h_=>?_⟩)|(refine cU (fun h_=>?_) (fun h_=>?_))|(refine cS (fun h_=>?_) (fun h_=>?_)))<;>first|(exfalso;revert h_;decide;done)|(exact absurd rfl h_)|(have bm:=True.intro;clear bm;(conv=>whnf)))
 refine⟨fun k f o c=>∃i:Nat,i≤vs.length∧k=vs.length - i∧c=0∧f=[(0,c6 vs),(1,c6 vs),(12,.s (.int .i64 (vs.map eZ).length)),(13,.s (.int .i64 i))]∧o=[],⟨vs.length,?_⟩,?_⟩
 ·exact⟨[],[],_,_,_,t3,⟨0,Nat.zero_le _,rfl,rfl,rfl,rfl⟩⟩
 ·rintro k f1 o1 c1 ⟨i,hi,rfl,rfl,rfl,rfl⟩;refine wh ?_;refine sp ?_ ?_<;>intro h
  ·have h:=dZ.1 h;refine wh ?_;refine eT h ?_;refine wh ?_;refine eT h ?_;refine wh ?_;refine sp ?_ ?_<;>intro hv
   ·exact absurd ((ry.2 rfl).symm.trans ((PE vs[i] vs[i]).symm.trans hv)) (by decide)
   ·refine wh ?_;refine⟨vs.length - (i+1),?_,om⟩;exact⟨[],[],_,_,_,t3,⟨i+1,h,rfl,rfl,rfl,rfl⟩⟩
  ·refine wh ?_;exact⟨[],[],_,_,_,t3,rfl,rfl,rfl⟩
theorem Tk:VC E0 74 0 [.sl 7 [] false,.sl 7 [] false,.dc 75 [] []] [] (RR (.s (.bool true)) 0 []):=by
 refine VC.cV L0 (show E0.func 74=some Tryz.f74 by kernel_rfl) (fun _ _=>rfl) rfl rfl [999999] ?_;refine wh ?_;refine rn ?_;exact⟨[],[],_,_,_,t3,rfl,rfl,rfl⟩
theorem Tl:VC E0 112 0 [.sl 1 [] false,.sl 1 [] false] [] (RR (.s (.bool true)) 0 []):=by
 refine VC.cV L0 (show E0.func 112=some Tryz.f112 by kernel_rfl) (fun _ _=>rfl) rfl rfl [999999] ?_;refine wh ?_;refine rn ?_;exact⟨[],[],_,_,_,t3,rfl,rfl,rfl⟩
theorem Tm:VC E0 76 0 [.sl 1 [] false,.sl 1 [] false] [] (RR (.s (.bool true)) 0 []):=by
 refine en L0 Tryz.f76 ?_;refine⟨[],rfl,?_⟩;refine wh ?_;refine⟨[],rfl,?_⟩;refine wh ?_
 ((first|(refine⟨fun h_=>?_,fun h_=>?_⟩)|(refine cU (fun h_=>?_) (fun h_=>?_))|(refine cS (fun h_=>?_) (fun h_=>?_)))<;>first|(exfalso;revert h_;decide;done)|(exact absurd rfl h_)|(have bm:=True.intro;clear bm;(conv=>whnf)))
 exact⟨[],[],_,_,_,t3,rfl,rfl,rfl⟩
theorem WQ:VC E0 72 0 [.agg (aF aY),.agg (aF aY)] [] (RR (.s (.bool true)) 0 []):=by
 refine en L0 Tryz.f72 ?_
 repeat((first|(refine⟨fun h_=>?_,fun h_=>?_⟩)|(refine cU (fun h_=>?_) (fun h_=>?_))|(refine cS (fun h_=>?_) (fun h_=>?_)))<;>first|(exfalso;revert h_;decide;done)|(exact absurd rfl h_)|(have bm:=True.intro;clear bm;(conv=>whnf)))
 refine⟨[],[],_,_,_,_,Tl,t3,cw ?_⟩;exact⟨[],[],_,_,_,t3,rfl,rfl,rfl⟩
theorem uE (k al to b s:Int) (c:cA) (vs:List ak) (hl:vs.length<1000000):VC E0 39 0 [.agg (az ⟨k,al,to,b,s,c,aY,vs⟩),.agg (az ⟨k,al,to,b,s,c,aY,vs⟩)] [] (RR (.s (.bool true)) 0 []):=by
 refine en L0 Tryz.f39 ?_
 repeat((first|(refine⟨fun h_=>?_,fun h_=>?_⟩)|(refine cU (fun h_=>?_) (fun h_=>?_))|(refine cS (fun h_=>?_) (fun h_=>?_)))<;>first|(exfalso;revert h_;decide;done)|(exact absurd rfl h_)|(have bm:=True.intro;clear bm;(conv=>whnf)))
 ·exact absurd (((vY (a:=c)).2 rfl).symm.trans ((uA c c).symm.trans h_)) (by decide)
 refine⟨[],[],_,_,_,_,WQ,t3,cw ?_⟩;refine⟨[],[],_,_,_,_,Tj vs hl,t3,cw ?_⟩;refine⟨[],[],_,_,_,_,Tk,t3,cw ?_⟩;refine⟨[],[],_,_,_,_,Tm,t3,cw ?_⟩;exact⟨[],[],_,_,_,t3,rfl,rfl,rfl⟩
end Go.M
