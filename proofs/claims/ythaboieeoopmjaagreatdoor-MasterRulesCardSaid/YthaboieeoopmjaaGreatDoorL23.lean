/-
  Part 23 of the library that the proof leans on.
-/
import Derived.Test.YthaboieeoopmjaaGreatDoorL12
import Derived.Test.YthaboieeoopmjaaGreatDoorL21
import Derived.Test.YthaboieeoopmjaaGreatDoorL22
namespace Go.M
open Go Go.Proofs
set_option maxRecDepth 100000
set_option maxHeartbeats 4000000
def fB (a:Int):Bool:=decide ((1≤a∧a≤24)∨(101≤a∧a≤105)∨(201≤a∧a≤206))
def lA (s:Int):Bool:=decide (0≤s∧s≤512)
def Ax (c:b8):Bool:=decide (c.check=0)
theorem iK (k:Int) (h:1≤k∧k≤20):VC E0 31 0 [.s (.int .i64 k)] [] (RR (.s (.bool true)) 0 []):=by
 refine en L0 Tryz.f31 ?_
 repeat'(first|((first|(refine⟨fun h=>?_,fun h=>?_⟩)|(refine cg (fun h=>?_) (fun h=>?_))|(refine cd (fun h=>?_) (fun h=>?_)))<;>(conv=>whnf)))
 all_goals(refine⟨[],[],[],_,_,⟨?_,.nil,rfl⟩,rfl,rfl,rfl⟩)
 all_goals(refine .s (Lz.of (an ?_));first|rfl |(exfalso;omega))
theorem Mp (a:Int):VC E0 58 0 [.s (.int .i64 a)] [] (RR (.s (.bool (decide (1≤a∧a≤24)))) 0 []):=by
 refine en L0 Tryz.f58 ?_
 repeat'(first|((first|(refine⟨fun h=>?_,fun h=>?_⟩)|(refine cg (fun h=>?_) (fun h=>?_))|(refine cd (fun h=>?_) (fun h=>?_)))<;>(conv=>whnf)))
 all_goals(refine⟨[],[],[],_,_,⟨?_,.nil,rfl⟩,rfl,rfl,rfl⟩)
 all_goals(refine .s (Lz.of (an ?_));simp at*;omega)
theorem Gc (a:Int):VC E0 59 0 [.s (.int .i64 a)] [] (RR (.s (.bool (decide (101≤a∧a≤105)))) 0 []):=by
 refine en L0 Tryz.f59 ?_
 repeat'(first|((first|(refine⟨fun h=>?_,fun h=>?_⟩)|(refine cg (fun h=>?_) (fun h=>?_))|(refine cd (fun h=>?_) (fun h=>?_)))<;>(conv=>whnf)))
 all_goals(refine⟨[],[],[],_,_,⟨?_,.nil,rfl⟩,rfl,rfl,rfl⟩)
 all_goals(refine .s (Lz.of (an ?_));simp at*;omega)
theorem Gd (a:Int):VC E0 60 0 [.s (.int .i64 a)] [] (RR (.s (.bool (decide (201≤a∧a≤206)))) 0 []):=by
 refine en L0 Tryz.f60 ?_
 repeat'(first|((first|(refine⟨fun h=>?_,fun h=>?_⟩)|(refine cg (fun h=>?_) (fun h=>?_))|(refine cd (fun h=>?_) (fun h=>?_)))<;>(conv=>whnf)))
 all_goals(refine⟨[],[],[],_,_,⟨?_,.nil,rfl⟩,rfl,rfl,rfl⟩)
 all_goals(refine .s (Lz.of (an ?_));simp at*;omega)
theorem dT (a:Int):VC E0 32 0 [.s (.int .i64 a)] [] (RR (.s (.bool (fB a))) 0 []):=by
 refine en L0 Tryz.f32 ?_;refine⟨[],[],_,_,_,_,Mp a,t3,?_⟩;rintro r o' c' ⟨rfl,rfl,rfl⟩;have bj:=True.intro;clear bj;cases h1:decide (1≤a∧a≤24)
 ·refine wh ?_;refine⟨[],[],_,_,_,_,Gc a,t3,?_⟩;rintro r o' c' ⟨rfl,rfl,rfl⟩;have bj:=True.intro;clear bj;cases h2:decide (101≤a∧a≤105)
  ·refine wh ?_;refine⟨[],[],_,_,_,_,Gd a,t3,?_⟩;rintro r o' c' ⟨rfl,rfl,rfl⟩;have bj:=True.intro;clear bj;cases h3:decide (201≤a∧a≤206)
   ·refine wh ?_;refine⟨[],[],_,_,_,tx ?_,rfl,rfl,rfl⟩;exact Lz.of (an (by unfold fB;simp at*;omega))
   ·refine wh ?_;refine⟨[],[],_,_,_,tx ?_,rfl,rfl,rfl⟩;exact Lz.of (an (by unfold fB;simp at*;omega))
  ·refine wh ?_;refine⟨[],[],_,_,_,tx ?_,rfl,rfl,rfl⟩;exact Lz.of (an (by unfold fB;simp at*;omega))
 ·refine wh ?_;refine⟨[],[],_,_,_,tx ?_,rfl,rfl,rfl⟩;exact Lz.of (an (by unfold fB;simp at*;omega))
theorem BE (m:bS):VC E0 111 0 [.agg (bu m)] [] (RR (.s (.bool (bP m.ao))) 0 []):=by
 refine en L0 Tryz.f111 ?_;refine⟨[],[],_,_,_,_,FB m.ao,t3,cw ?_⟩;exact⟨[],[],_,_,_,t3,rfl,rfl,rfl⟩
theorem zb (m:bS):VC E0 106 0 [.agg (bu m)] [] (RR (.s (.bool (lA m.slot))) 0 []):=by
 refine en L0 Tryz.f106 ?_
 repeat'(first|((first|(refine⟨fun h=>?_,fun h=>?_⟩)|(refine cg (fun h=>?_) (fun h=>?_))|(refine cd (fun h=>?_) (fun h=>?_)))<;>(conv=>whnf)))
 all_goals(refine⟨[],[],[],_,_,⟨?_,.nil,rfl⟩,rfl,rfl,rfl⟩)
 all_goals(refine .s (Lz.of (an ?_));unfold lA;simp at*;omega)
theorem Qe (m:bS):VC E0 151 0 [.agg (bu m)] [] (RR (.s (.bool (Ax m.cmd))) 0 []):=by
 refine en L0 Tryz.f151 ?_;refine⟨[],[],_,_,_,_,lk m.cmd.kind m.cmd.chain m.cmd.aq m.cmd.node,t3,cw ?_⟩;refine sp ?_ ?_<;>intro h
 ·have h:m.cmd.check=0:=h;refine wh ?_;refine⟨[],[],_,_,_,tx ?_,rfl,rfl,rfl⟩;exact Lz.of (an (by simp[Ax,h]))
 ·have h:¬m.cmd.check=0:=h;refine wh ?_;refine⟨[],[],_,_,_,tx ?_,rfl,rfl,rfl⟩;exact Lz.of (an (by simp[Ax,h]))
theorem aa7 (m:bS) (hl:m.eg.length<1000000):VC E0 159 0 [.agg (bu m)] [] (RR (.s (.bool (pR m.eg))) 0 []):=by
 refine en L0 Tryz.f159 ?_;refine⟨[],[],_,_,_,_,Xu m.eg hl,t3,cw ?_⟩;exact⟨[],[],_,_,_,t3,rfl,rfl,rfl⟩
def bL (m:bS):Bool:=
 if m.kind=1∨m.kind=4∨m.kind=6 then bP m.ao&&lA m.slot
 else if m.kind=2 then bP m.ao&&(lA m.slot&&pR m.eg)
 else if m.kind=3 then bP m.ao&&(lA m.slot&&Ax m.cmd)
 else if m.kind=5 then lA m.slot&&Ax m.cmd
 else if m.kind=7 then lA m.slot
 else if m.kind=8 then bP m.ao
 else Ax m.cmd
def cL (m:bS):Int:=if fB m.ak&&(fB m.to&&bL m)then 0 else 4
theorem Xv (ak to b s:Int):VC E0 18 0 [.agg (bu ⟨1,ak,to,b,s,aF,aS,[]⟩)] [] (RR (.s (.int .i64 (cL ⟨1,ak,to,b,s,aF,aS,[]⟩))) 0 []):=by
 refine VC.cJ L0 (show E0.func 18=some Tryz.f18 by kernel_rfl) (fun _ _=>rfl) rfl rfl [999999] ?_;refine wh ?_;refine⟨[],[],_,_,_,_,iK 1 (by decide),t3,cw ?_⟩;refine⟨[],[],_,_,_,_,dT ak,t3,?_⟩;rintro r o' c' ⟨rfl,rfl,rfl⟩;have bj:=True.intro;clear bj;cases h1:fB ak
 ·refine wh ?_;refine⟨[],[],_,_,_,tx ?_,rfl,rfl,rfl⟩;exact Lz.int (by simp[cL,bL,h1])
 refine wh ?_;refine⟨[],[],_,_,_,_,dT to,t3,?_⟩;rintro r o' c' ⟨rfl,rfl,rfl⟩;have bj:=True.intro;clear bj;cases h2:fB to
 ·refine wh ?_;refine⟨[],[],_,_,_,tx ?_,rfl,rfl,rfl⟩;exact Lz.int (by simp[cL,bL,h1,h2])
 refine wh ?_;refine⟨[],[],_,_,_,_,aaY ak to b s,t3,cw ?_⟩;refine⟨[],[],_,_,_,_,tL 1 ak to b s aF [] (by decide),t3,cw ?_⟩;refine⟨[],[],_,_,_,_,Xj,t3,cw ?_⟩;refine rn ?_;refine⟨[],[],_,_,_,_,BE ⟨1,ak,to,b,s,aF,aS,[]⟩,t3,?_⟩;rintro r o' c' ⟨rfl,rfl,rfl⟩;have bj:=True.intro;clear bj;cases h4:bP b
 ·refine wh ?_;refine⟨[],[],_,_,_,tx ?_,rfl,rfl,rfl⟩;exact Lz.int (by simp[cL,bL,h1,h2,h4])
 refine wh ?_;refine rn ?_;refine⟨[],[],_,_,_,_,zb ⟨1,ak,to,b,s,aF,aS,[]⟩,t3,?_⟩;rintro r o' c' ⟨rfl,rfl,rfl⟩;have bj:=True.intro;clear bj;cases h5:lA s
 ·refine wh ?_;refine⟨[],[],_,_,_,tx ?_,rfl,rfl,rfl⟩;exact Lz.int (by simp[cL,bL,h1,h2,h4,h5])
 refine wh ?_;refine rn ?_;refine⟨[],[],_,_,_,tx ?_,rfl,rfl,rfl⟩;exact Lz.int (by simp[cL,bL,h1,h2,h4,h5])
theorem Xw (ak to b s:Int):VC E0 18 0 [.agg (bu ⟨4,ak,to,b,s,aF,aS,[]⟩)] [] (RR (.s (.int .i64 (cL ⟨4,ak,to,b,s,aF,aS,[]⟩))) 0 []):=by
 refine VC.cJ L0 (show E0.func 18=some Tryz.f18 by kernel_rfl) (fun _ _=>rfl) rfl rfl [999999] ?_;refine wh ?_;refine⟨[],[],_,_,_,_,iK 4 (by decide),t3,cw ?_⟩;refine⟨[],[],_,_,_,_,dT ak,t3,?_⟩;rintro r o' c' ⟨rfl,rfl,rfl⟩;have bj:=True.intro;clear bj;cases h1:fB ak
 ·refine wh ?_;refine⟨[],[],_,_,_,tx ?_,rfl,rfl,rfl⟩;exact Lz.int (by simp[cL,bL,h1])
 refine wh ?_;refine⟨[],[],_,_,_,_,dT to,t3,?_⟩;rintro r o' c' ⟨rfl,rfl,rfl⟩;have bj:=True.intro;clear bj;cases h2:fB to
 ·refine wh ?_;refine⟨[],[],_,_,_,tx ?_,rfl,rfl,rfl⟩;exact Lz.int (by simp[cL,bL,h1,h2])
 refine wh ?_;refine⟨[],[],_,_,_,_,aaZ ak to b s,t3,cw ?_⟩;refine⟨[],[],_,_,_,_,tL 4 ak to b s aF [] (by decide),t3,cw ?_⟩;refine⟨[],[],_,_,_,_,Xk,t3,cw ?_⟩;refine rn ?_;refine⟨[],[],_,_,_,_,BE ⟨4,ak,to,b,s,aF,aS,[]⟩,t3,?_⟩;rintro r o' c' ⟨rfl,rfl,rfl⟩;have bj:=True.intro;clear bj;cases h4:bP b
 ·refine wh ?_;refine⟨[],[],_,_,_,tx ?_,rfl,rfl,rfl⟩;exact Lz.int (by simp[cL,bL,h1,h2,h4])
 refine wh ?_;refine rn ?_;refine⟨[],[],_,_,_,_,zb ⟨4,ak,to,b,s,aF,aS,[]⟩,t3,?_⟩;rintro r o' c' ⟨rfl,rfl,rfl⟩;have bj:=True.intro;clear bj;cases h5:lA s
 ·refine wh ?_;refine⟨[],[],_,_,_,tx ?_,rfl,rfl,rfl⟩;exact Lz.int (by simp[cL,bL,h1,h2,h4,h5])
 refine wh ?_;refine rn ?_;refine⟨[],[],_,_,_,tx ?_,rfl,rfl,rfl⟩;exact Lz.int (by simp[cL,bL,h1,h2,h4,h5])
theorem Xx (ak to b s:Int):VC E0 18 0 [.agg (bu ⟨6,ak,to,b,s,aF,aS,[]⟩)] [] (RR (.s (.int .i64 (cL ⟨6,ak,to,b,s,aF,aS,[]⟩))) 0 []):=by
 refine VC.cJ L0 (show E0.func 18=some Tryz.f18 by kernel_rfl) (fun _ _=>rfl) rfl rfl [999999] ?_;refine wh ?_;refine⟨[],[],_,_,_,_,iK 6 (by decide),t3,cw ?_⟩;refine⟨[],[],_,_,_,_,dT ak,t3,?_⟩;rintro r o' c' ⟨rfl,rfl,rfl⟩;have bj:=True.intro;clear bj;cases h1:fB ak
 ·refine wh ?_;refine⟨[],[],_,_,_,tx ?_,rfl,rfl,rfl⟩;exact Lz.int (by simp[cL,bL,h1])
 refine wh ?_;refine⟨[],[],_,_,_,_,dT to,t3,?_⟩;rintro r o' c' ⟨rfl,rfl,rfl⟩;have bj:=True.intro;clear bj;cases h2:fB to
 ·refine wh ?_;refine⟨[],[],_,_,_,tx ?_,rfl,rfl,rfl⟩;exact Lz.int (by simp[cL,bL,h1,h2])
 refine wh ?_;refine⟨[],[],_,_,_,_,aa0 ak to b s,t3,cw ?_⟩;refine⟨[],[],_,_,_,_,tL 6 ak to b s aF [] (by decide),t3,cw ?_⟩;refine⟨[],[],_,_,_,_,Xl,t3,cw ?_⟩;refine rn ?_;refine⟨[],[],_,_,_,_,BE ⟨6,ak,to,b,s,aF,aS,[]⟩,t3,?_⟩;rintro r o' c' ⟨rfl,rfl,rfl⟩;have bj:=True.intro;clear bj;cases h4:bP b
 ·refine wh ?_;refine⟨[],[],_,_,_,tx ?_,rfl,rfl,rfl⟩;exact Lz.int (by simp[cL,bL,h1,h2,h4])
 refine wh ?_;refine rn ?_;refine⟨[],[],_,_,_,_,zb ⟨6,ak,to,b,s,aF,aS,[]⟩,t3,?_⟩;rintro r o' c' ⟨rfl,rfl,rfl⟩;have bj:=True.intro;clear bj;cases h5:lA s
 ·refine wh ?_;refine⟨[],[],_,_,_,tx ?_,rfl,rfl,rfl⟩;exact Lz.int (by simp[cL,bL,h1,h2,h4,h5])
 refine wh ?_;refine rn ?_;refine⟨[],[],_,_,_,tx ?_,rfl,rfl,rfl⟩;exact Lz.int (by simp[cL,bL,h1,h2,h4,h5])
theorem Xy (ak to b s:Int) (vs:List ai) (hl:vs.length<1000000):VC E0 18 0 [.agg (bu ⟨2,ak,to,b,s,aF,aS,vs⟩)] [] (RR (.s (.int .i64 (cL ⟨2,ak,to,b,s,aF,aS,vs⟩))) 0 []):=by
 refine VC.cJ L0 (show E0.func 18=some Tryz.f18 by kernel_rfl) (fun _ _=>rfl) rfl rfl [999999] ?_;refine wh ?_;refine⟨[],[],_,_,_,_,iK 2 (by decide),t3,cw ?_⟩;refine⟨[],[],_,_,_,_,dT ak,t3,?_⟩;rintro r o' c' ⟨rfl,rfl,rfl⟩;have bj:=True.intro;clear bj;cases h1:fB ak
 ·refine wh ?_;refine⟨[],[],_,_,_,tx ?_,rfl,rfl,rfl⟩;exact Lz.int (by simp[cL,bL,h1])
 refine wh ?_;refine⟨[],[],_,_,_,_,dT to,t3,?_⟩;rintro r o' c' ⟨rfl,rfl,rfl⟩;have bj:=True.intro;clear bj;cases h2:fB to
 ·refine wh ?_;refine⟨[],[],_,_,_,tx ?_,rfl,rfl,rfl⟩;exact Lz.int (by simp[cL,bL,h1,h2])
 refine wh ?_;refine⟨[],[],_,_,_,_,aa1 ak to b s vs,t3,cw ?_⟩;refine⟨[],[],_,_,_,_,tL 2 ak to b s aF vs hl,t3,cw ?_⟩;refine⟨[],[],_,_,_,_,Xm,t3,cw ?_⟩;refine rn ?_;refine⟨[],[],_,_,_,_,BE ⟨2,ak,to,b,s,aF,aS,vs⟩,t3,?_⟩;rintro r o' c' ⟨rfl,rfl,rfl⟩;have bj:=True.intro;clear bj;cases h4:bP b
 ·refine wh ?_;refine⟨[],[],_,_,_,tx ?_,rfl,rfl,rfl⟩;exact Lz.int (by simp[cL,bL,h1,h2,h4])
 refine wh ?_;refine rn ?_;refine⟨[],[],_,_,_,_,zb ⟨2,ak,to,b,s,aF,aS,vs⟩,t3,?_⟩;rintro r o' c' ⟨rfl,rfl,rfl⟩;have bj:=True.intro;clear bj;cases h5:lA s
 ·refine wh ?_;refine⟨[],[],_,_,_,tx ?_,rfl,rfl,rfl⟩;exact Lz.int (by simp[cL,bL,h1,h2,h4,h5])
 refine wh ?_;refine rn ?_;refine⟨[],[],_,_,_,_,aa7 ⟨2,ak,to,b,s,aF,aS,vs⟩ hl,t3,?_⟩;rintro r o' c' ⟨rfl,rfl,rfl⟩;have bj:=True.intro;clear bj;cases h7:pR vs
 ·refine wh ?_;refine⟨[],[],_,_,_,tx ?_,rfl,rfl,rfl⟩;exact Lz.int (by simp[cL,bL,h1,h2,h4,h5,h7])
 refine wh ?_;refine rn ?_;refine⟨[],[],_,_,_,tx ?_,rfl,rfl,rfl⟩;exact Lz.int (by simp[cL,bL,h1,h2,h4,h5,h7])
theorem Xz (ak to b s:Int) (c:b8):VC E0 18 0 [.agg (bu ⟨3,ak,to,b,s,c,aS,[]⟩)] [] (RR (.s (.int .i64 (cL ⟨3,ak,to,b,s,c,aS,[]⟩))) 0 []):=by
 refine VC.cJ L0 (show E0.func 18=some Tryz.f18 by kernel_rfl) (fun _ _=>rfl) rfl rfl [999999] ?_;refine wh ?_;refine⟨[],[],_,_,_,_,iK 3 (by decide),t3,cw ?_⟩;refine⟨[],[],_,_,_,_,dT ak,t3,?_⟩;rintro r o' c' ⟨rfl,rfl,rfl⟩;have bj:=True.intro;clear bj;cases h1:fB ak
 ·refine wh ?_;refine⟨[],[],_,_,_,tx ?_,rfl,rfl,rfl⟩;exact Lz.int (by simp[cL,bL,h1])
 refine wh ?_;refine⟨[],[],_,_,_,_,dT to,t3,?_⟩;rintro r o' c' ⟨rfl,rfl,rfl⟩;have bj:=True.intro;clear bj;cases h2:fB to
 ·refine wh ?_;refine⟨[],[],_,_,_,tx ?_,rfl,rfl,rfl⟩;exact Lz.int (by simp[cL,bL,h1,h2])
 refine wh ?_;refine⟨[],[],_,_,_,_,aa2 ak to b s c,t3,cw ?_⟩;refine⟨[],[],_,_,_,_,tL 3 ak to b s c [] (by decide),t3,cw ?_⟩;refine⟨[],[],_,_,_,_,Xn,t3,cw ?_⟩;refine rn ?_;refine⟨[],[],_,_,_,_,BE ⟨3,ak,to,b,s,c,aS,[]⟩,t3,?_⟩;rintro r o' c' ⟨rfl,rfl,rfl⟩;have bj:=True.intro;clear bj;cases h4:bP b
 ·refine wh ?_;refine⟨[],[],_,_,_,tx ?_,rfl,rfl,rfl⟩;exact Lz.int (by simp[cL,bL,h1,h2,h4])
 refine wh ?_;refine rn ?_;refine⟨[],[],_,_,_,_,zb ⟨3,ak,to,b,s,c,aS,[]⟩,t3,?_⟩;rintro r o' c' ⟨rfl,rfl,rfl⟩;have bj:=True.intro;clear bj;cases h5:lA s
 ·refine wh ?_;refine⟨[],[],_,_,_,tx ?_,rfl,rfl,rfl⟩;exact Lz.int (by simp[cL,bL,h1,h2,h4,h5])
 refine wh ?_;refine rn ?_;refine⟨[],[],_,_,_,_,Qe ⟨3,ak,to,b,s,c,aS,[]⟩,t3,?_⟩;rintro r o' c' ⟨rfl,rfl,rfl⟩;have bj:=True.intro;clear bj;cases h6:Ax c
 ·refine wh ?_;refine⟨[],[],_,_,_,tx ?_,rfl,rfl,rfl⟩;exact Lz.int (by simp[cL,bL,h1,h2,h4,h5,h6])
 refine wh ?_;refine rn ?_;refine⟨[],[],_,_,_,tx ?_,rfl,rfl,rfl⟩;exact Lz.int (by simp[cL,bL,h1,h2,h4,h5,h6])
theorem XA (ak to s:Int) (c:b8):VC E0 18 0 [.agg (bu ⟨5,ak,to,0,s,c,aS,[]⟩)] [] (RR (.s (.int .i64 (cL ⟨5,ak,to,0,s,c,aS,[]⟩))) 0 []):=by
 refine VC.cJ L0 (show E0.func 18=some Tryz.f18 by kernel_rfl) (fun _ _=>rfl) rfl rfl [999999] ?_;refine wh ?_;refine⟨[],[],_,_,_,_,iK 5 (by decide),t3,cw ?_⟩;refine⟨[],[],_,_,_,_,dT ak,t3,?_⟩;rintro r o' c' ⟨rfl,rfl,rfl⟩;have bj:=True.intro;clear bj;cases h1:fB ak
 ·refine wh ?_;refine⟨[],[],_,_,_,tx ?_,rfl,rfl,rfl⟩;exact Lz.int (by simp[cL,bL,h1])
 refine wh ?_;refine⟨[],[],_,_,_,_,dT to,t3,?_⟩;rintro r o' c' ⟨rfl,rfl,rfl⟩;have bj:=True.intro;clear bj;cases h2:fB to
 ·refine wh ?_;refine⟨[],[],_,_,_,tx ?_,rfl,rfl,rfl⟩;exact Lz.int (by simp[cL,bL,h1,h2])
 refine wh ?_;refine⟨[],[],_,_,_,_,aa3 ak to s c,t3,cw ?_⟩;refine⟨[],[],_,_,_,_,tL 5 ak to 0 s c [] (by decide),t3,cw ?_⟩;refine⟨[],[],_,_,_,_,Xo,t3,cw ?_⟩;refine rn ?_;refine⟨[],[],_,_,_,_,zb ⟨5,ak,to,0,s,c,aS,[]⟩,t3,?_⟩;rintro r o' c' ⟨rfl,rfl,rfl⟩;have bj:=True.intro;clear bj;cases h5:lA s
 ·refine wh ?_;refine⟨[],[],_,_,_,tx ?_,rfl,rfl,rfl⟩;exact Lz.int (by simp[cL,bL,h1,h2,h5])
 refine wh ?_;refine rn ?_;refine⟨[],[],_,_,_,_,Qe ⟨5,ak,to,0,s,c,aS,[]⟩,t3,?_⟩;rintro r o' c' ⟨rfl,rfl,rfl⟩;have bj:=True.intro;clear bj;cases h6:Ax c
 ·refine wh ?_;refine⟨[],[],_,_,_,tx ?_,rfl,rfl,rfl⟩;exact Lz.int (by simp[cL,bL,h1,h2,h5,h6])
 refine wh ?_;refine rn ?_;refine⟨[],[],_,_,_,tx ?_,rfl,rfl,rfl⟩;exact Lz.int (by simp[cL,bL,h1,h2,h5,h6])
theorem XB (ak to s:Int):VC E0 18 0 [.agg (bu ⟨7,ak,to,0,s,aF,aS,[]⟩)] [] (RR (.s (.int .i64 (cL ⟨7,ak,to,0,s,aF,aS,[]⟩))) 0 []):=by
 refine VC.cJ L0 (show E0.func 18=some Tryz.f18 by kernel_rfl) (fun _ _=>rfl) rfl rfl [999999] ?_;refine wh ?_;refine⟨[],[],_,_,_,_,iK 7 (by decide),t3,cw ?_⟩;refine⟨[],[],_,_,_,_,dT ak,t3,?_⟩;rintro r o' c' ⟨rfl,rfl,rfl⟩;have bj:=True.intro;clear bj;cases h1:fB ak
 ·refine wh ?_;refine⟨[],[],_,_,_,tx ?_,rfl,rfl,rfl⟩;exact Lz.int (by simp[cL,bL,h1])
 refine wh ?_;refine⟨[],[],_,_,_,_,dT to,t3,?_⟩;rintro r o' c' ⟨rfl,rfl,rfl⟩;have bj:=True.intro;clear bj;cases h2:fB to
 ·refine wh ?_;refine⟨[],[],_,_,_,tx ?_,rfl,rfl,rfl⟩;exact Lz.int (by simp[cL,bL,h1,h2])
 refine wh ?_;refine⟨[],[],_,_,_,_,aa4 ak to s,t3,cw ?_⟩;refine⟨[],[],_,_,_,_,tL 7 ak to 0 s aF [] (by decide),t3,cw ?_⟩;refine⟨[],[],_,_,_,_,Xp,t3,cw ?_⟩;refine rn ?_;refine⟨[],[],_,_,_,_,zb ⟨7,ak,to,0,s,aF,aS,[]⟩,t3,?_⟩;rintro r o' c' ⟨rfl,rfl,rfl⟩;have bj:=True.intro;clear bj;cases h5:lA s
 ·refine wh ?_;refine⟨[],[],_,_,_,tx ?_,rfl,rfl,rfl⟩;exact Lz.int (by simp[cL,bL,h1,h2,h5])
 refine wh ?_;refine rn ?_;refine⟨[],[],_,_,_,tx ?_,rfl,rfl,rfl⟩;exact Lz.int (by simp[cL,bL,h1,h2,h5])
theorem XC (ak to b:Int):VC E0 18 0 [.agg (bu ⟨8,ak,to,b,0,aF,aS,[]⟩)] [] (RR (.s (.int .i64 (cL ⟨8,ak,to,b,0,aF,aS,[]⟩))) 0 []):=by
 refine VC.cJ L0 (show E0.func 18=some Tryz.f18 by kernel_rfl) (fun _ _=>rfl) rfl rfl [999999] ?_;refine wh ?_;refine⟨[],[],_,_,_,_,iK 8 (by decide),t3,cw ?_⟩;refine⟨[],[],_,_,_,_,dT ak,t3,?_⟩;rintro r o' c' ⟨rfl,rfl,rfl⟩;have bj:=True.intro;clear bj;cases h1:fB ak
 ·refine wh ?_;refine⟨[],[],_,_,_,tx ?_,rfl,rfl,rfl⟩;exact Lz.int (by simp[cL,bL,h1])
 refine wh ?_;refine⟨[],[],_,_,_,_,dT to,t3,?_⟩;rintro r o' c' ⟨rfl,rfl,rfl⟩;have bj:=True.intro;clear bj;cases h2:fB to
 ·refine wh ?_;refine⟨[],[],_,_,_,tx ?_,rfl,rfl,rfl⟩;exact Lz.int (by simp[cL,bL,h1,h2])
 refine wh ?_;refine⟨[],[],_,_,_,_,aa5 ak to b,t3,cw ?_⟩;refine⟨[],[],_,_,_,_,tL 8 ak to b 0 aF [] (by decide),t3,cw ?_⟩;refine⟨[],[],_,_,_,_,Xq,t3,cw ?_⟩;refine rn ?_;refine⟨[],[],_,_,_,_,BE ⟨8,ak,to,b,0,aF,aS,[]⟩,t3,?_⟩;rintro r o' c' ⟨rfl,rfl,rfl⟩;have bj:=True.intro;clear bj;cases h4:bP b
 ·refine wh ?_;refine⟨[],[],_,_,_,tx ?_,rfl,rfl,rfl⟩;exact Lz.int (by simp[cL,bL,h1,h2,h4])
 refine wh ?_;refine rn ?_;refine⟨[],[],_,_,_,tx ?_,rfl,rfl,rfl⟩;exact Lz.int (by simp[cL,bL,h1,h2,h4])
theorem XD (ak to:Int) (c:b8):VC E0 18 0 [.agg (bu ⟨9,ak,to,0,0,c,aS,[]⟩)] [] (RR (.s (.int .i64 (cL ⟨9,ak,to,0,0,c,aS,[]⟩))) 0 []):=by
 refine VC.cJ L0 (show E0.func 18=some Tryz.f18 by kernel_rfl) (fun _ _=>rfl) rfl rfl [999999] ?_;refine wh ?_;refine⟨[],[],_,_,_,_,iK 9 (by decide),t3,cw ?_⟩;refine⟨[],[],_,_,_,_,dT ak,t3,?_⟩;rintro r o' c' ⟨rfl,rfl,rfl⟩;have bj:=True.intro;clear bj;cases h1:fB ak
 ·refine wh ?_;refine⟨[],[],_,_,_,tx ?_,rfl,rfl,rfl⟩;exact Lz.int (by simp[cL,bL,h1])
 refine wh ?_;refine⟨[],[],_,_,_,_,dT to,t3,?_⟩;rintro r o' c' ⟨rfl,rfl,rfl⟩;have bj:=True.intro;clear bj;cases h2:fB to
 ·refine wh ?_;refine⟨[],[],_,_,_,tx ?_,rfl,rfl,rfl⟩;exact Lz.int (by simp[cL,bL,h1,h2])
 refine wh ?_;refine⟨[],[],_,_,_,_,bare9 ak to c,t3,cw ?_⟩;refine⟨[],[],_,_,_,_,tL 9 ak to 0 0 c [] (by decide),t3,cw ?_⟩;refine⟨[],[],_,_,_,_,Xr,t3,cw ?_⟩;refine rn ?_;refine⟨[],[],_,_,_,_,Qe ⟨9,ak,to,0,0,c,aS,[]⟩,t3,?_⟩;rintro r o' c' ⟨rfl,rfl,rfl⟩;have bj:=True.intro;clear bj;cases h6:Ax c
 ·refine wh ?_;refine⟨[],[],_,_,_,tx ?_,rfl,rfl,rfl⟩;exact Lz.int (by simp[cL,bL,h1,h2,h6])
 refine wh ?_;refine rn ?_;refine⟨[],[],_,_,_,tx ?_,rfl,rfl,rfl⟩;exact Lz.int (by simp[cL,bL,h1,h2,h6])
end Go.M
