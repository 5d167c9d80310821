/-
  Part 23 of the library that the proof leans on.
-/
import Derived.Test.YtpkdpgcpmeibpaaGreatDoorL12
import Derived.Test.YtpkdpgcpmeibpaaGreatDoorL21
import Derived.Test.YtpkdpgcpmeibpaaGreatDoorL22
namespace Go.M
open Go Go.Proofs
set_option maxRecDepth 100000
set_option maxHeartbeats 4000000
def fV (a:Int):Bool:=decide ((1≤a∧a≤24)∨(101≤a∧a≤105)∨(201≤a∧a≤206))
def mq (s:Int):Bool:=decide (0≤s∧s≤512)
def Bh (c:cA):Bool:=decide (c.check=0)
theorem jr (k:Int) (h:1≤k∧k≤20):VC E0 37 0 [.s (.int .i64 k)] [] (RR (.s (.bool true)) 0 []):=by
 refine en L0 Tryz.f37 ?_
 repeat'(first|((first|(refine⟨fun h=>?_,fun h=>?_⟩)|(refine cU (fun h=>?_) (fun h=>?_))|(refine cS (fun h=>?_) (fun h=>?_)))<;>(conv=>whnf)))
 all_goals(refine⟨[],[],[],_,_,⟨?_,.nil,rfl⟩,rfl,rfl,rfl⟩)
 all_goals(refine .s (Lz.of (ah ?_));first|rfl |(exfalso;omega))
theorem Mx (a:Int):VC E0 69 0 [.s (.int .i64 a)] [] (RR (.s (.bool (decide (1≤a∧a≤24)))) 0 []):=by
 refine en L0 Tryz.f69 ?_
 repeat'(first|((first|(refine⟨fun h=>?_,fun h=>?_⟩)|(refine cU (fun h=>?_) (fun h=>?_))|(refine cS (fun h=>?_) (fun h=>?_)))<;>(conv=>whnf)))
 all_goals(refine⟨[],[],[],_,_,⟨?_,.nil,rfl⟩,rfl,rfl,rfl⟩)
 all_goals(refine .s (Lz.of (ah ?_));simp at*;omega)
theorem GW (a:Int):VC E0 70 0 [.s (.int .i64 a)] [] (RR (.s (.bool (decide (101≤a∧a≤105)))) 0 []):=by
 refine en L0 Tryz.f70 ?_
 repeat'(first|((first|(refine⟨fun h=>?_,fun h=>?_⟩)|(refine cU (fun h=>?_) (fun h=>?_))|(refine cS (fun h=>?_) (fun h=>?_)))<;>(conv=>whnf)))
 all_goals(refine⟨[],[],[],_,_,⟨?_,.nil,rfl⟩,rfl,rfl,rfl⟩)
 all_goals(refine .s (Lz.of (ah ?_));simp at*;omega)
theorem GX (a:Int):VC E0 71 0 [.s (.int .i64 a)] [] (RR (.s (.bool (decide (201≤a∧a≤206)))) 0 []):=by
 refine en L0 Tryz.f71 ?_
 repeat'(first|((first|(refine⟨fun h=>?_,fun h=>?_⟩)|(refine cU (fun h=>?_) (fun h=>?_))|(refine cS (fun h=>?_) (fun h=>?_)))<;>(conv=>whnf)))
 all_goals(refine⟨[],[],[],_,_,⟨?_,.nil,rfl⟩,rfl,rfl,rfl⟩)
 all_goals(refine .s (Lz.of (ah ?_));simp at*;omega)
theorem eC (a:Int):VC E0 38 0 [.s (.int .i64 a)] [] (RR (.s (.bool (fV a))) 0 []):=by
 refine en L0 Tryz.f38 ?_;refine⟨[],[],_,_,_,_,Mx a,t3,?_⟩;rintro r o' c' ⟨rfl,rfl,rfl⟩;have bm:=True.intro;clear bm;cases h1:decide (1≤a∧a≤24)
 ·refine wh ?_;refine⟨[],[],_,_,_,_,GW a,t3,?_⟩;rintro r o' c' ⟨rfl,rfl,rfl⟩;have bm:=True.intro;clear bm;cases h2:decide (101≤a∧a≤105)
  ·refine wh ?_;refine⟨[],[],_,_,_,_,GX a,t3,?_⟩;rintro r o' c' ⟨rfl,rfl,rfl⟩;have bm:=True.intro;clear bm;cases h3:decide (201≤a∧a≤206)
   ·refine wh ?_;refine⟨[],[],_,_,_,tx ?_,rfl,rfl,rfl⟩;exact Lz.of (ah (by unfold fV;simp at*;omega))
   ·refine wh ?_;refine⟨[],[],_,_,_,tx ?_,rfl,rfl,rfl⟩;exact Lz.of (ah (by unfold fV;simp at*;omega))
  ·refine wh ?_;refine⟨[],[],_,_,_,tx ?_,rfl,rfl,rfl⟩;exact Lz.of (ah (by unfold fV;simp at*;omega))
 ·refine wh ?_;refine⟨[],[],_,_,_,tx ?_,rfl,rfl,rfl⟩;exact Lz.of (ah (by unfold fV;simp at*;omega))
theorem Cq (m:dr):VC E0 121 0 [.agg (az m)] [] (RR (.s (.bool (cd m.ai))) 0 []):=by
 refine en L0 Tryz.f121 ?_;refine⟨[],[],_,_,_,_,Gp m.ai,t3,cw ?_⟩;exact⟨[],[],_,_,_,t3,rfl,rfl,rfl⟩
theorem zY (m:dr):VC E0 116 0 [.agg (az m)] [] (RR (.s (.bool (mq m.slot))) 0 []):=by
 refine en L0 Tryz.f116 ?_
 repeat'(first|((first|(refine⟨fun h=>?_,fun h=>?_⟩)|(refine cU (fun h=>?_) (fun h=>?_))|(refine cS (fun h=>?_) (fun h=>?_)))<;>(conv=>whnf)))
 all_goals(refine⟨[],[],[],_,_,⟨?_,.nil,rfl⟩,rfl,rfl,rfl⟩)
 all_goals(refine .s (Lz.of (ah ?_));unfold mq;simp at*;omega)
theorem Qd (m:dr):VC E0 161 0 [.agg (az m)] [] (RR (.s (.bool (Bh m.cmd))) 0 []):=by
 refine en L0 Tryz.f161 ?_;refine⟨[],[],_,_,_,_,l5 m.cmd.kind m.cmd.chain m.cmd.aq m.cmd.node,t3,cw ?_⟩;refine sp ?_ ?_<;>intro h
 ·have h:m.cmd.check=0:=h;refine wh ?_;refine⟨[],[],_,_,_,tx ?_,rfl,rfl,rfl⟩;exact Lz.of (ah (by simp[Bh,h]))
 ·have h:¬m.cmd.check=0:=h;refine wh ?_;refine⟨[],[],_,_,_,tx ?_,rfl,rfl,rfl⟩;exact Lz.of (ah (by simp[Bh,h]))
theorem aax (m:dr) (hl:m.fk.length<1000000):VC E0 169 0 [.agg (az m)] [] (RR (.s (.bool (qG m.fk))) 0 []):=by
 refine en L0 Tryz.f169 ?_;refine⟨[],[],_,_,_,_,W7 m.fk hl,t3,cw ?_⟩;exact⟨[],[],_,_,_,t3,rfl,rfl,rfl⟩
def bT (m:dr):Bool:=
 if m.kind=1∨m.kind=4∨m.kind=6 then cd m.ai&&mq m.slot
 else if m.kind=2 then cd m.ai&&(mq m.slot&&qG m.fk)
 else if m.kind=3 then cd m.ai&&(mq m.slot&&Bh m.cmd)
 else if m.kind=5 then mq m.slot&&Bh m.cmd
 else if m.kind=7 then mq m.slot
 else if m.kind=8 then cd m.ai
 else Bh m.cmd
def cW (m:dr):Int:=if fV m.al&&(fV m.to&&bT m)then 0 else 4
theorem W8 (al to b s:Int):VC E0 21 0 [.agg (az ⟨1,al,to,b,s,aH,aY,[]⟩)] [] (RR (.s (.int .i64 (cW ⟨1,al,to,b,s,aH,aY,[]⟩))) 0 []):=by
 refine VC.cV L0 (show E0.func 21=some Tryz.f21 by kernel_rfl) (fun _ _=>rfl) rfl rfl [999999] ?_;refine wh ?_;refine⟨[],[],_,_,_,_,jr 1 (by decide),t3,cw ?_⟩;refine⟨[],[],_,_,_,_,eC al,t3,?_⟩;rintro r o' c' ⟨rfl,rfl,rfl⟩;have bm:=True.intro;clear bm;cases h1:fV al
 ·refine wh ?_;refine⟨[],[],_,_,_,tx ?_,rfl,rfl,rfl⟩;exact Lz.int (by simp[cW,bT,h1])
 refine wh ?_;refine⟨[],[],_,_,_,_,eC to,t3,?_⟩;rintro r o' c' ⟨rfl,rfl,rfl⟩;have bm:=True.intro;clear bm;cases h2:fV to
 ·refine wh ?_;refine⟨[],[],_,_,_,tx ?_,rfl,rfl,rfl⟩;exact Lz.int (by simp[cW,bT,h1,h2])
 refine wh ?_;refine⟨[],[],_,_,_,_,aao al to b s,t3,cw ?_⟩;refine⟨[],[],_,_,_,_,uE 1 al to b s aH [] (by decide),t3,cw ?_⟩;refine⟨[],[],_,_,_,_,WV,t3,cw ?_⟩;refine rn ?_;refine⟨[],[],_,_,_,_,Cq ⟨1,al,to,b,s,aH,aY,[]⟩,t3,?_⟩;rintro r o' c' ⟨rfl,rfl,rfl⟩;have bm:=True.intro;clear bm;cases h4:cd b
 ·refine wh ?_;refine⟨[],[],_,_,_,tx ?_,rfl,rfl,rfl⟩;exact Lz.int (by simp[cW,bT,h1,h2,h4])
 refine wh ?_;refine rn ?_;refine⟨[],[],_,_,_,_,zY ⟨1,al,to,b,s,aH,aY,[]⟩,t3,?_⟩;rintro r o' c' ⟨rfl,rfl,rfl⟩;have bm:=True.intro;clear bm;cases h5:mq s
 ·refine wh ?_;refine⟨[],[],_,_,_,tx ?_,rfl,rfl,rfl⟩;exact Lz.int (by simp[cW,bT,h1,h2,h4,h5])
 refine wh ?_;refine rn ?_;refine⟨[],[],_,_,_,tx ?_,rfl,rfl,rfl⟩;exact Lz.int (by simp[cW,bT,h1,h2,h4,h5])
theorem W9 (al to b s:Int):VC E0 21 0 [.agg (az ⟨4,al,to,b,s,aH,aY,[]⟩)] [] (RR (.s (.int .i64 (cW ⟨4,al,to,b,s,aH,aY,[]⟩))) 0 []):=by
 refine VC.cV L0 (show E0.func 21=some Tryz.f21 by kernel_rfl) (fun _ _=>rfl) rfl rfl [999999] ?_;refine wh ?_;refine⟨[],[],_,_,_,_,jr 4 (by decide),t3,cw ?_⟩;refine⟨[],[],_,_,_,_,eC al,t3,?_⟩;rintro r o' c' ⟨rfl,rfl,rfl⟩;have bm:=True.intro;clear bm;cases h1:fV al
 ·refine wh ?_;refine⟨[],[],_,_,_,tx ?_,rfl,rfl,rfl⟩;exact Lz.int (by simp[cW,bT,h1])
 refine wh ?_;refine⟨[],[],_,_,_,_,eC to,t3,?_⟩;rintro r o' c' ⟨rfl,rfl,rfl⟩;have bm:=True.intro;clear bm;cases h2:fV to
 ·refine wh ?_;refine⟨[],[],_,_,_,tx ?_,rfl,rfl,rfl⟩;exact Lz.int (by simp[cW,bT,h1,h2])
 refine wh ?_;refine⟨[],[],_,_,_,_,aap al to b s,t3,cw ?_⟩;refine⟨[],[],_,_,_,_,uE 4 al to b s aH [] (by decide),t3,cw ?_⟩;refine⟨[],[],_,_,_,_,WW,t3,cw ?_⟩;refine rn ?_;refine⟨[],[],_,_,_,_,Cq ⟨4,al,to,b,s,aH,aY,[]⟩,t3,?_⟩;rintro r o' c' ⟨rfl,rfl,rfl⟩;have bm:=True.intro;clear bm;cases h4:cd b
 ·refine wh ?_;refine⟨[],[],_,_,_,tx ?_,rfl,rfl,rfl⟩;exact Lz.int (by simp[cW,bT,h1,h2,h4])
 refine wh ?_;refine rn ?_;refine⟨[],[],_,_,_,_,zY ⟨4,al,to,b,s,aH,aY,[]⟩,t3,?_⟩;rintro r o' c' ⟨rfl,rfl,rfl⟩;have bm:=True.intro;clear bm;cases h5:mq s
 ·refine wh ?_;refine⟨[],[],_,_,_,tx ?_,rfl,rfl,rfl⟩;exact Lz.int (by simp[cW,bT,h1,h2,h4,h5])
 refine wh ?_;refine rn ?_;refine⟨[],[],_,_,_,tx ?_,rfl,rfl,rfl⟩;exact Lz.int (by simp[cW,bT,h1,h2,h4,h5])
theorem Xa (al to b s:Int):VC E0 21 0 [.agg (az ⟨6,al,to,b,s,aH,aY,[]⟩)] [] (RR (.s (.int .i64 (cW ⟨6,al,to,b,s,aH,aY,[]⟩))) 0 []):=by
 refine VC.cV L0 (show E0.func 21=some Tryz.f21 by kernel_rfl) (fun _ _=>rfl) rfl rfl [999999] ?_;refine wh ?_;refine⟨[],[],_,_,_,_,jr 6 (by decide),t3,cw ?_⟩;refine⟨[],[],_,_,_,_,eC al,t3,?_⟩;rintro r o' c' ⟨rfl,rfl,rfl⟩;have bm:=True.intro;clear bm;cases h1:fV al
 ·refine wh ?_;refine⟨[],[],_,_,_,tx ?_,rfl,rfl,rfl⟩;exact Lz.int (by simp[cW,bT,h1])
 refine wh ?_;refine⟨[],[],_,_,_,_,eC to,t3,?_⟩;rintro r o' c' ⟨rfl,rfl,rfl⟩;have bm:=True.intro;clear bm;cases h2:fV to
 ·refine wh ?_;refine⟨[],[],_,_,_,tx ?_,rfl,rfl,rfl⟩;exact Lz.int (by simp[cW,bT,h1,h2])
 refine wh ?_;refine⟨[],[],_,_,_,_,aaq al to b s,t3,cw ?_⟩;refine⟨[],[],_,_,_,_,uE 6 al to b s aH [] (by decide),t3,cw ?_⟩;refine⟨[],[],_,_,_,_,WX,t3,cw ?_⟩;refine rn ?_;refine⟨[],[],_,_,_,_,Cq ⟨6,al,to,b,s,aH,aY,[]⟩,t3,?_⟩;rintro r o' c' ⟨rfl,rfl,rfl⟩;have bm:=True.intro;clear bm;cases h4:cd b
 ·refine wh ?_;refine⟨[],[],_,_,_,tx ?_,rfl,rfl,rfl⟩;exact Lz.int (by simp[cW,bT,h1,h2,h4])
 refine wh ?_;refine rn ?_;refine⟨[],[],_,_,_,_,zY ⟨6,al,to,b,s,aH,aY,[]⟩,t3,?_⟩;rintro r o' c' ⟨rfl,rfl,rfl⟩;have bm:=True.intro;clear bm;cases h5:mq s
 ·refine wh ?_;refine⟨[],[],_,_,_,tx ?_,rfl,rfl,rfl⟩;exact Lz.int (by simp[cW,bT,h1,h2,h4,h5])
 refine wh ?_;refine rn ?_;refine⟨[],[],_,_,_,tx ?_,rfl,rfl,rfl⟩;exact Lz.int (by simp[cW,bT,h1,h2,h4,h5])
theorem Xb (al to b s:Int) (vs:List ak) (hl:vs.length<1000000):VC E0 21 0 [.agg (az ⟨2,al,to,b,s,aH,aY,vs⟩)] [] (RR (.s (.int .i64 (cW ⟨2,al,to,b,s,aH,aY,vs⟩))) 0 []):=by
 refine VC.cV L0 (show E0.func 21=some Tryz.f21 by kernel_rfl) (fun _ _=>rfl) rfl rfl [999999] ?_;refine wh ?_;refine⟨[],[],_,_,_,_,jr 2 (by decide),t3,cw ?_⟩;refine⟨[],[],_,_,_,_,eC al,t3,?_⟩;rintro r o' c' ⟨rfl,rfl,rfl⟩;have bm:=True.intro;clear bm;cases h1:fV al
 ·refine wh ?_;refine⟨[],[],_,_,_,tx ?_,rfl,rfl,rfl⟩;exact Lz.int (by simp[cW,bT,h1])
 refine wh ?_;refine⟨[],[],_,_,_,_,eC to,t3,?_⟩;rintro r o' c' ⟨rfl,rfl,rfl⟩;have bm:=True.intro;clear bm;cases h2:fV to
 ·refine wh ?_;refine⟨[],[],_,_,_,tx ?_,rfl,rfl,rfl⟩;exact Lz.int (by simp[cW,bT,h1,h2])
 refine wh ?_;refine⟨[],[],_,_,_,_,aar al to b s vs,t3,cw ?_⟩;refine⟨[],[],_,_,_,_,uE 2 al to b s aH vs hl,t3,cw ?_⟩;refine⟨[],[],_,_,_,_,WY,t3,cw ?_⟩;refine rn ?_;refine⟨[],[],_,_,_,_,Cq ⟨2,al,to,b,s,aH,aY,vs⟩,t3,?_⟩;rintro r o' c' ⟨rfl,rfl,rfl⟩;have bm:=True.intro;clear bm;cases h4:cd b
 ·refine wh ?_;refine⟨[],[],_,_,_,tx ?_,rfl,rfl,rfl⟩;exact Lz.int (by simp[cW,bT,h1,h2,h4])
 refine wh ?_;refine rn ?_;refine⟨[],[],_,_,_,_,zY ⟨2,al,to,b,s,aH,aY,vs⟩,t3,?_⟩;rintro r o' c' ⟨rfl,rfl,rfl⟩;have bm:=True.intro;clear bm;cases h5:mq s
 ·refine wh ?_;refine⟨[],[],_,_,_,tx ?_,rfl,rfl,rfl⟩;exact Lz.int (by simp[cW,bT,h1,h2,h4,h5])
 refine wh ?_;refine rn ?_;refine⟨[],[],_,_,_,_,aax ⟨2,al,to,b,s,aH,aY,vs⟩ hl,t3,?_⟩;rintro r o' c' ⟨rfl,rfl,rfl⟩;have bm:=True.intro;clear bm;cases h7:qG vs
 ·refine wh ?_;refine⟨[],[],_,_,_,tx ?_,rfl,rfl,rfl⟩;exact Lz.int (by simp[cW,bT,h1,h2,h4,h5,h7])
 refine wh ?_;refine rn ?_;refine⟨[],[],_,_,_,tx ?_,rfl,rfl,rfl⟩;exact Lz.int (by simp[cW,bT,h1,h2,h4,h5,h7])
theorem Xc (al to b s:Int) (c:cA):VC E0 21 0 [.agg (az ⟨3,al,to,b,s,c,aY,[]⟩)] [] (RR (.s (.int .i64 (cW ⟨3,al,to,b,s,c,aY,[]⟩))) 0 []):=by
 refine VC.cV L0 (show E0.func 21=some Tryz.f21 by kernel_rfl) (fun _ _=>rfl) rfl rfl [999999] ?_;refine wh ?_;refine⟨[],[],_,_,_,_,jr 3 (by decide),t3,cw ?_⟩;refine⟨[],[],_,_,_,_,eC al,t3,?_⟩;rintro r o' c' ⟨rfl,rfl,rfl⟩;have bm:=True.intro;clear bm;cases h1:fV al
 ·refine wh ?_;refine⟨[],[],_,_,_,tx ?_,rfl,rfl,rfl⟩;exact Lz.int (by simp[cW,bT,h1])
 refine wh ?_;refine⟨[],[],_,_,_,_,eC to,t3,?_⟩;rintro r o' c' ⟨rfl,rfl,rfl⟩;have bm:=True.intro;clear bm;cases h2:fV to
 ·refine wh ?_;refine⟨[],[],_,_,_,tx ?_,rfl,rfl,rfl⟩;exact Lz.int (by simp[cW,bT,h1,h2])
 refine wh ?_;refine⟨[],[],_,_,_,_,aas al to b s c,t3,cw ?_⟩;refine⟨[],[],_,_,_,_,uE 3 al to b s c [] (by decide),t3,cw ?_⟩;refine⟨[],[],_,_,_,_,WZ,t3,cw ?_⟩;refine rn ?_;refine⟨[],[],_,_,_,_,Cq ⟨3,al,to,b,s,c,aY,[]⟩,t3,?_⟩;rintro r o' c' ⟨rfl,rfl,rfl⟩;have bm:=True.intro;clear bm;cases h4:cd b
 ·refine wh ?_;refine⟨[],[],_,_,_,tx ?_,rfl,rfl,rfl⟩;exact Lz.int (by simp[cW,bT,h1,h2,h4])
 refine wh ?_;refine rn ?_;refine⟨[],[],_,_,_,_,zY ⟨3,al,to,b,s,c,aY,[]⟩,t3,?_⟩;rintro r o' c' ⟨rfl,rfl,rfl⟩;have bm:=True.intro;clear bm;cases h5:mq s
 ·refine wh ?_;refine⟨[],[],_,_,_,tx ?_,rfl,rfl,rfl⟩;exact Lz.int (by simp[cW,bT,h1,h2,h4,h5])
 refine wh ?_;refine rn ?_;refine⟨[],[],_,_,_,_,Qd ⟨3,al,to,b,s,c,aY,[]⟩,t3,?_⟩;rintro r o' c' ⟨rfl,rfl,rfl⟩;have bm:=True.intro;clear bm;cases h6:Bh c
 ·refine wh ?_;refine⟨[],[],_,_,_,tx ?_,rfl,rfl,rfl⟩;exact Lz.int (by simp[cW,bT,h1,h2,h4,h5,h6])
 refine wh ?_;refine rn ?_;refine⟨[],[],_,_,_,tx ?_,rfl,rfl,rfl⟩;exact Lz.int (by simp[cW,bT,h1,h2,h4,h5,h6])
theorem Xd (al to s:Int) (c:cA):VC E0 21 0 [.agg (az ⟨5,al,to,0,s,c,aY,[]⟩)] [] (RR (.s (.int .i64 (cW ⟨5,al,to,0,s,c,aY,[]⟩))) 0 []):=by
 refine VC.cV L0 (show E0.func 21=some Tryz.f21 by kernel_rfl) (fun _ _=>rfl) rfl rfl [999999] ?_;refine wh ?_;refine⟨[],[],_,_,_,_,jr 5 (by decide),t3,cw ?_⟩;refine⟨[],[],_,_,_,_,eC al,t3,?_⟩;rintro r o' c' ⟨rfl,rfl,rfl⟩;have bm:=True.intro;clear bm;cases h1:fV al
 ·refine wh ?_;refine⟨[],[],_,_,_,tx ?_,rfl,rfl,rfl⟩;exact Lz.int (by simp[cW,bT,h1])
 refine wh ?_;refine⟨[],[],_,_,_,_,eC to,t3,?_⟩;rintro r o' c' ⟨rfl,rfl,rfl⟩;have bm:=True.intro;clear bm;cases h2:fV to
 ·refine wh ?_;refine⟨[],[],_,_,_,tx ?_,rfl,rfl,rfl⟩;exact Lz.int (by simp[cW,bT,h1,h2])
 refine wh ?_;refine⟨[],[],_,_,_,_,aat al to s c,t3,cw ?_⟩;refine⟨[],[],_,_,_,_,uE 5 al to 0 s c [] (by decide),t3,cw ?_⟩;refine⟨[],[],_,_,_,_,W1,t3,cw ?_⟩;refine rn ?_;refine⟨[],[],_,_,_,_,zY ⟨5,al,to,0,s,c,aY,[]⟩,t3,?_⟩;rintro r o' c' ⟨rfl,rfl,rfl⟩;have bm:=True.intro;clear bm;cases h5:mq s
 ·refine wh ?_;refine⟨[],[],_,_,_,tx ?_,rfl,rfl,rfl⟩;exact Lz.int (by simp[cW,bT,h1,h2,h5])
 refine wh ?_;refine rn ?_;refine⟨[],[],_,_,_,_,Qd ⟨5,al,to,0,s,c,aY,[]⟩,t3,?_⟩;rintro r o' c' ⟨rfl,rfl,rfl⟩;have bm:=True.intro;clear bm;cases h6:Bh c
 ·refine wh ?_;refine⟨[],[],_,_,_,tx ?_,rfl,rfl,rfl⟩;exact Lz.int (by simp[cW,bT,h1,h2,h5,h6])
 refine wh ?_;refine rn ?_;refine⟨[],[],_,_,_,tx ?_,rfl,rfl,rfl⟩;exact Lz.int (by simp[cW,bT,h1,h2,h5,h6])
theorem Xe (al to s:Int):VC E0 21 0 [.agg (az ⟨7,al,to,0,s,aH,aY,[]⟩)] [] (RR (.s (.int .i64 (cW ⟨7,al,to,0,s,aH,aY,[]⟩))) 0 []):=by
 refine VC.cV L0 (show E0.func 21=some Tryz.f21 by kernel_rfl) (fun _ _=>rfl) rfl rfl [999999] ?_;refine wh ?_;refine⟨[],[],_,_,_,_,jr 7 (by decide),t3,cw ?_⟩;refine⟨[],[],_,_,_,_,eC al,t3,?_⟩;rintro r o' c' ⟨rfl,rfl,rfl⟩;have bm:=True.intro;clear bm;cases h1:fV al
 ·refine wh ?_;refine⟨[],[],_,_,_,tx ?_,rfl,rfl,rfl⟩;exact Lz.int (by simp[cW,bT,h1])
 refine wh ?_;refine⟨[],[],_,_,_,_,eC to,t3,?_⟩;rintro r o' c' ⟨rfl,rfl,rfl⟩;have bm:=True.intro;clear bm;cases h2:fV to
 ·refine wh ?_;refine⟨[],[],_,_,_,tx ?_,rfl,rfl,rfl⟩;exact Lz.int (by simp[cW,bT,h1,h2])
 refine wh ?_;refine⟨[],[],_,_,_,_,aau al to s,t3,cw ?_⟩;refine⟨[],[],_,_,_,_,uE 7 al to 0 s aH [] (by decide),t3,cw ?_⟩;refine⟨[],[],_,_,_,_,W2,t3,cw ?_⟩;refine rn ?_;refine⟨[],[],_,_,_,_,zY ⟨7,al,to,0,s,aH,aY,[]⟩,t3,?_⟩;rintro r o' c' ⟨rfl,rfl,rfl⟩;have bm:=True.intro;clear bm;cases h5:mq s
 ·refine wh ?_;refine⟨[],[],_,_,_,tx ?_,rfl,rfl,rfl⟩;exact Lz.int (by simp[cW,bT,h1,h2,h5])
 refine wh ?_;refine rn ?_;refine⟨[],[],_,_,_,tx ?_,rfl,rfl,rfl⟩;exact Lz.int (by simp[cW,bT,h1,h2,h5])
theorem Xf (al to b:Int):VC E0 21 0 [.agg (az ⟨8,al,to,b,0,aH,aY,[]⟩)] [] (RR (.s (.int .i64 (cW ⟨8,al,to,b,0,aH,aY,[]⟩))) 0 []):=by
 refine VC.cV L0 (show E0.func 21=some Tryz.f21 by kernel_rfl) (fun _ _=>rfl) rfl rfl [999999] ?_;refine wh ?_;refine⟨[],[],_,_,_,_,jr 8 (by decide),t3,cw ?_⟩;refine⟨[],[],_,_,_,_,eC al,t3,?_⟩;rintro r o' c' ⟨rfl,rfl,rfl⟩;have bm:=True.intro;clear bm;cases h1:fV al
 ·refine wh ?_;refine⟨[],[],_,_,_,tx ?_,rfl,rfl,rfl⟩;exact Lz.int (by simp[cW,bT,h1])
 refine wh ?_;refine⟨[],[],_,_,_,_,eC to,t3,?_⟩;rintro r o' c' ⟨rfl,rfl,rfl⟩;have bm:=True.intro;clear bm;cases h2:fV to
 ·refine wh ?_;refine⟨[],[],_,_,_,tx ?_,rfl,rfl,rfl⟩;exact Lz.int (by simp[cW,bT,h1,h2])
 refine wh ?_;refine⟨[],[],_,_,_,_,aav al to b,t3,cw ?_⟩;refine⟨[],[],_,_,_,_,uE 8 al to b 0 aH [] (by decide),t3,cw ?_⟩;refine⟨[],[],_,_,_,_,W3,t3,cw ?_⟩;refine rn ?_;refine⟨[],[],_,_,_,_,Cq ⟨8,al,to,b,0,aH,aY,[]⟩,t3,?_⟩;rintro r o' c' ⟨rfl,rfl,rfl⟩;have bm:=True.intro;clear bm;cases h4:cd b
 ·refine wh ?_;refine⟨[],[],_,_,_,tx ?_,rfl,rfl,rfl⟩;exact Lz.int (by simp[cW,bT,h1,h2,h4])
 refine wh ?_;refine rn ?_;refine⟨[],[],_,_,_,tx ?_,rfl,rfl,rfl⟩;exact Lz.int (by simp[cW,bT,h1,h2,h4])
theorem Xg (al to:Int) (c:cA):VC E0 21 0 [.agg (az ⟨9,al,to,0,0,c,aY,[]⟩)] [] (RR (.s (.int .i64 (cW ⟨9,al,to,0,0,c,aY,[]⟩))) 0 []):=by
 refine VC.cV L0 (show E0.func 21=some Tryz.f21 by kernel_rfl) (fun _ _=>rfl) rfl rfl [999999] ?_;refine wh ?_;refine⟨[],[],_,_,_,_,jr 9 (by decide),t3,cw ?_⟩;refine⟨[],[],_,_,_,_,eC al,t3,?_⟩;rintro r o' c' ⟨rfl,rfl,rfl⟩;have bm:=True.intro;clear bm;cases h1:fV al
 ·refine wh ?_;refine⟨[],[],_,_,_,tx ?_,rfl,rfl,rfl⟩;exact Lz.int (by simp[cW,bT,h1])
 refine wh ?_;refine⟨[],[],_,_,_,_,eC to,t3,?_⟩;rintro r o' c' ⟨rfl,rfl,rfl⟩;have bm:=True.intro;clear bm;cases h2:fV to
 ·refine wh ?_;refine⟨[],[],_,_,_,tx ?_,rfl,rfl,rfl⟩;exact Lz.int (by simp[cW,bT,h1,h2])
 refine wh ?_;refine⟨[],[],_,_,_,_,bare9 al to c,t3,cw ?_⟩;refine⟨[],[],_,_,_,_,uE 9 al to 0 0 c [] (by decide),t3,cw ?_⟩;refine⟨[],[],_,_,_,_,W4,t3,cw ?_⟩;refine rn ?_;refine⟨[],[],_,_,_,_,Qd ⟨9,al,to,0,0,c,aY,[]⟩,t3,?_⟩;rintro r o' c' ⟨rfl,rfl,rfl⟩;have bm:=True.intro;clear bm;cases h6:Bh c
 ·refine wh ?_;refine⟨[],[],_,_,_,tx ?_,rfl,rfl,rfl⟩;exact Lz.int (by simp[cW,bT,h1,h2,h6])
 refine wh ?_;refine rn ?_;refine⟨[],[],_,_,_,tx ?_,rfl,rfl,rfl⟩;exact Lz.int (by simp[cW,bT,h1,h2,h6])
end Go.M
