/-
  Part 20 of the library that the proof leans on.
-/
import Derived.Test.YthaboieeoopmjaaGreatDoorL12
import Derived.Test.YthaboieeoopmjaaGreatDoorL19
namespace Go.M
open Go Go.Proofs
set_option maxRecDepth 100000
set_option maxHeartbeats 4000000
theorem TH (vs:List ai) (hl:vs.length<1000000):VC E0 62 0 [cQ vs,cQ vs] [] (RR (.s (.bool true)) 0 []):=by
 refine en L0 Tryz.f62 ?_
 ((first|(refine⟨fun h_=>?_,fun h_=>?_⟩)|(refine cg (fun h_=>?_) (fun h_=>?_))|(refine cd (fun h_=>?_) (fun h_=>?_)))<;>first|(exfalso;revert h_;decide;done)|(exact absurd rfl h_)|(have bj:=True.intro;clear bj;(conv=>whnf)))
 refine⟨fun k f o c=>∃i:Nat,i≤vs.length∧k=vs.length - i∧c=0∧f=[(0,cQ vs),(1,cQ vs),(12,.s (.int .i64 (vs.map eL).length)),(13,.s (.int .i64 i))]∧o=[],⟨vs.length,?_⟩,?_⟩
 ·exact⟨[],[],_,_,_,t3,⟨0,Nat.zero_le _,rfl,rfl,rfl,rfl⟩⟩
 ·rintro k f1 o1 c1 ⟨i,hi,rfl,rfl,rfl,rfl⟩;refine wh ?_;refine sp ?_ ?_<;>intro h
  ·have h:=fW.1 h;refine wh ?_;refine jg h ?_;refine wh ?_;refine jg h ?_;refine wh ?_;refine sp ?_ ?_<;>intro hv
   ·exact absurd ((Kg.2 rfl).symm.trans ((PB vs[i] vs[i]).symm.trans hv)) (by decide)
   ·refine wh ?_;refine⟨vs.length - (i+1),?_,om⟩;exact⟨[],[],_,_,_,t3,⟨i+1,h,rfl,rfl,rfl,rfl⟩⟩
  ·refine wh ?_;exact⟨[],[],_,_,_,t3,rfl,rfl,rfl⟩
theorem TI:VC E0 63 0 [.sl 7 [] false,.sl 7 [] false,.cW 64 [] []] [] (RR (.s (.bool true)) 0 []):=by
 refine VC.cJ L0 (show E0.func 63=some Tryz.f63 by kernel_rfl) (fun _ _=>rfl) rfl rfl [999999] ?_;refine wh ?_;refine rn ?_;exact⟨[],[],_,_,_,t3,rfl,rfl,rfl⟩
theorem TJ:VC E0 102 0 [.sl 1 [] false,.sl 1 [] false] [] (RR (.s (.bool true)) 0 []):=by
 refine VC.cJ L0 (show E0.func 102=some Tryz.f102 by kernel_rfl) (fun _ _=>rfl) rfl rfl [999999] ?_;refine wh ?_;refine rn ?_;exact⟨[],[],_,_,_,t3,rfl,rfl,rfl⟩
theorem TK:VC E0 65 0 [.sl 1 [] false,.sl 1 [] false] [] (RR (.s (.bool true)) 0 []):=by
 refine en L0 Tryz.f65 ?_;refine⟨[],rfl,?_⟩;refine wh ?_;refine⟨[],rfl,?_⟩;refine wh ?_
 ((first|(refine⟨fun h_=>?_,fun h_=>?_⟩)|(refine cg (fun h_=>?_) (fun h_=>?_))|(refine cd (fun h_=>?_) (fun h_=>?_)))<;>first|(exfalso;revert h_;decide;done)|(exact absurd rfl h_)|(have bj:=True.intro;clear bj;(conv=>whnf)))
 exact⟨[],[],_,_,_,t3,rfl,rfl,rfl⟩
theorem Xe:VC E0 61 0 [.agg (aJ aS),.agg (aJ aS)] [] (RR (.s (.bool true)) 0 []):=by
 refine en L0 Tryz.f61 ?_
 repeat((first|(refine⟨fun h_=>?_,fun h_=>?_⟩)|(refine cg (fun h_=>?_) (fun h_=>?_))|(refine cd (fun h_=>?_) (fun h_=>?_)))<;>first|(exfalso;revert h_;decide;done)|(exact absurd rfl h_)|(have bj:=True.intro;clear bj;(conv=>whnf)))
 refine⟨[],[],_,_,_,_,TJ,t3,cw ?_⟩;exact⟨[],[],_,_,_,t3,rfl,rfl,rfl⟩
theorem tL (k ak to b s:Int) (c:b8) (vs:List ai) (hl:vs.length<1000000):VC E0 33 0 [.agg (bu ⟨k,ak,to,b,s,c,aS,vs⟩),.agg (bu ⟨k,ak,to,b,s,c,aS,vs⟩)] [] (RR (.s (.bool true)) 0 []):=by
 refine en L0 Tryz.f33 ?_
 repeat((first|(refine⟨fun h_=>?_,fun h_=>?_⟩)|(refine cg (fun h_=>?_) (fun h_=>?_))|(refine cd (fun h_=>?_) (fun h_=>?_)))<;>first|(exfalso;revert h_;decide;done)|(exact absurd rfl h_)|(have bj:=True.intro;clear bj;(conv=>whnf)))
 ·exact absurd (((u4 (a:=c)).2 rfl).symm.trans ((tI c c).symm.trans h_)) (by decide)
 refine⟨[],[],_,_,_,_,Xe,t3,cw ?_⟩;refine⟨[],[],_,_,_,_,TH vs hl,t3,cw ?_⟩;refine⟨[],[],_,_,_,_,TI,t3,cw ?_⟩;refine⟨[],[],_,_,_,_,TK,t3,cw ?_⟩;exact⟨[],[],_,_,_,t3,rfl,rfl,rfl⟩
end Go.M
