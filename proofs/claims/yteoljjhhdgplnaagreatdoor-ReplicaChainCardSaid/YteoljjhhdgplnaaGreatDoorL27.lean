/-
  Part 27 of the library that the proof leans on.
-/
import Derived.Test.YteoljjhhdgplnaaGreatDoorL12
import Derived.Test.YteoljjhhdgplnaaGreatDoorL26
namespace Go.M
open Go Go.Proofs
set_option maxRecDepth 100000
set_option maxHeartbeats 4000000
@[reducible] def B9 (x:RS) (s:Int):RS:={x with bl:=max x.bl s,known:=true}
@[reducible] def uY (x:RS) (s d:Int):RS:=if x.role.succ∈x.au.nodes then cA (B9 x s) d else B9 x s
theorem Ax {x:RS} {s d:Int} (hh:(g9 x.an (max x.bl s) 0).isSome=true):kM x s d=(if(x.bl<(uY x s d).bl∧(uY x s d).bl<aE (uY x s d).an)∨x.known=false then cp (uY x s d)else uY x s d):=by
 show(if x.bl<(uY x s d).bl∧(uY x s d).bl<aE (uY x s d).an∨(g9 x.an (max x.bl s) 0).isSome=false∨x.known=false then cp (uY x s d)else uY x s d)=_;rw[hh]
 congr 1
 simp
theorem Ot (x:RS) (f t ch e n s d sl:Int) (hn:x.au.nodes.length<1000000) (H:sL x.an) (G1:e7 (B9 x s)) (hh:(g9 x.an (max x.bl s) 0).isSome=true) (hd:0≤d∧d≤1000000) (G2:jf (uY x s d)):
 VC E0 30 1 [.ptr 0 0,.agg (ai (pS f t ch e n s d sl))] (gA x) (RR (.cY []) 1 (gA (kM x s d))):=by
 rw[Ax hh];obtain⟨l,hl⟩:=Option.isSome_iff_exists.1 hh;have CA:=Ir x.an H (max x.bl s) 0 (by decide) l hl;have Ix:=nJ x.au.nodes x.role.succ hn;have dT:=G1.done d hd;have fY:=eG (uY x s d).an G2.an;have bh:=G2.hand;have ir:=fV (B9 x s) d;have EG:(if s>x.bl then s else x.bl)=max x.bl s:=by split<;>omega
 obtain⟨node,au,role,st,an,base,df,bl,known,want,comes,out⟩:=x;cases known
 ·refine en L0 Tryz.f30 ?_;rw[show(if(pS f t ch e n s d sl).seq>(⟨node,au,role,st,an,base,df,bl,false,want,comes,out⟩:RS).bl then(pS f t ch e n s d sl).seq else(⟨node,au,role,st,an,base,df,bl,false,want,comes,out⟩:RS).bl)=max bl s from EG];refine⟨[],[some 2],_,_,_,_,CA,t3,cw ?_⟩;refine⟨[],[],_,_,_,_,Ix,t3,cw ?_⟩;by_cases yG:role.succ∈au.nodes
  ·have e2:uY ⟨node,au,role,st,an,base,df,bl,false,want,comes,out⟩ s d=cA (B9 ⟨node,au,role,st,an,base,df,bl,false,want,comes,out⟩ s) d:=if_pos yG;rw[decide_eq_true yG];rw[e2]at fY bh ⊢;generalize cA (B9 ⟨node,au,role,st,an,base,df,bl,false,want,comes,out⟩ s) d=z at dT fY bh ir ⊢;have hzg:z.bl=max bl s:=ir.bl;obtain⟨sP,lF,jI,Q6,B5,sQ,B6,B7,nM,sR,nN,B8⟩:=z;refine wh ?_;refine⟨[],[some 0],_,_,_,_,dT,t3,cw ?_⟩;refine sp ?_ ?_<;>intro gG
   ·refine wh ?_;refine⟨[],[some 5],_,_,_,_,fY,t3,cw ?_⟩;refine sp ?_ ?_<;>intro bF
    ·rw[if_pos (.inl ⟨gG,bF⟩)];refine wh ?_;refine⟨[],[some 0],_,_,_,_,bh,t3,cw ?_⟩;exact⟨[],[some 0],_,_,_,t3,rfl,rfl,rfl⟩
    ·rw[if_pos (.inr rfl)];refine wh ?_;refine⟨[],[some 0],_,_,_,_,bh,t3,cw ?_⟩;exact⟨[],[some 0],_,_,_,t3,rfl,rfl,rfl⟩
   ·rw[if_pos (.inr rfl)];refine wh ?_;refine⟨[],[some 0],_,_,_,_,bh,t3,cw ?_⟩;exact⟨[],[some 0],_,_,_,t3,rfl,rfl,rfl⟩
  ·have e2:uY ⟨node,au,role,st,an,base,df,bl,false,want,comes,out⟩ s d=B9 ⟨node,au,role,st,an,base,df,bl,false,want,comes,out⟩ s:=if_neg yG;rw[decide_eq_false yG];rw[e2]at fY bh ⊢;refine wh ?_;refine sp ?_ ?_<;>intro gG
   ·refine wh ?_;refine⟨[],[some 2],_,_,_,_,fY,t3,cw ?_⟩;refine sp ?_ ?_<;>intro bF
    ·rw[if_pos (.inl ⟨gG,bF⟩)];refine wh ?_;refine⟨[],[some 0],_,_,_,_,bh,t3,cw ?_⟩;exact⟨[],[some 0],_,_,_,t3,rfl,rfl,rfl⟩
    ·rw[if_pos (.inr rfl)];refine wh ?_;refine⟨[],[some 0],_,_,_,_,bh,t3,cw ?_⟩;exact⟨[],[some 0],_,_,_,t3,rfl,rfl,rfl⟩
   ·rw[if_pos (.inr rfl)];refine wh ?_;refine⟨[],[some 0],_,_,_,_,bh,t3,cw ?_⟩;exact⟨[],[some 0],_,_,_,t3,rfl,rfl,rfl⟩
 ·refine en L0 Tryz.f30 ?_;rw[show(if(pS f t ch e n s d sl).seq>(⟨node,au,role,st,an,base,df,bl,true,want,comes,out⟩:RS).bl then(pS f t ch e n s d sl).seq else(⟨node,au,role,st,an,base,df,bl,true,want,comes,out⟩:RS).bl)=max bl s from EG];refine⟨[],[some 2],_,_,_,_,CA,t3,cw ?_⟩;refine⟨[],[],_,_,_,_,Ix,t3,cw ?_⟩;by_cases yG:role.succ∈au.nodes
  ·have e2:uY ⟨node,au,role,st,an,base,df,bl,true,want,comes,out⟩ s d=cA (B9 ⟨node,au,role,st,an,base,df,bl,true,want,comes,out⟩ s) d:=if_pos yG;rw[decide_eq_true yG];rw[e2]at fY bh ⊢;generalize cA (B9 ⟨node,au,role,st,an,base,df,bl,true,want,comes,out⟩ s) d=z at dT fY bh ir ⊢;have hzg:z.bl=max bl s:=ir.bl;obtain⟨sP,lF,jI,Q6,B5,sQ,B6,B7,nM,sR,nN,B8⟩:=z;refine wh ?_;refine⟨[],[some 0],_,_,_,_,dT,t3,cw ?_⟩;refine sp ?_ ?_<;>intro gG
   ·refine wh ?_;refine⟨[],[some 5],_,_,_,_,fY,t3,cw ?_⟩;refine sp ?_ ?_<;>intro bF
    ·rw[if_pos (.inl ⟨gG,bF⟩)];refine wh ?_;refine⟨[],[some 0],_,_,_,_,bh,t3,cw ?_⟩;exact⟨[],[some 0],_,_,_,t3,rfl,rfl,rfl⟩
    ·rw[if_neg (fun q=>by rcases q with q|q;exact(fun q=>bF q.2) q;exact Bool.noConfusion q)];refine wh ?_;exact⟨[],[some 0],_,_,_,t3,rfl,rfl,rfl⟩
   ·rw[if_neg (fun q=>by rcases q with q|q;exact(fun q=>gG q.1) q;exact Bool.noConfusion q)];refine wh ?_;exact⟨[],[some 0],_,_,_,t3,rfl,rfl,rfl⟩
  ·have e2:uY ⟨node,au,role,st,an,base,df,bl,true,want,comes,out⟩ s d=B9 ⟨node,au,role,st,an,base,df,bl,true,want,comes,out⟩ s:=if_neg yG;rw[decide_eq_false yG];rw[e2]at fY bh ⊢;refine wh ?_;refine sp ?_ ?_<;>intro gG
   ·refine wh ?_;refine⟨[],[some 2],_,_,_,_,fY,t3,cw ?_⟩;refine sp ?_ ?_<;>intro bF
    ·rw[if_pos (.inl ⟨gG,bF⟩)];refine wh ?_;refine⟨[],[some 0],_,_,_,_,bh,t3,cw ?_⟩;exact⟨[],[some 0],_,_,_,t3,rfl,rfl,rfl⟩
    ·rw[if_neg (fun q=>by rcases q with q|q;exact(fun q=>bF q.2) q;exact Bool.noConfusion q)];refine wh ?_;exact⟨[],[some 0],_,_,_,t3,rfl,rfl,rfl⟩
   ·rw[if_neg (fun q=>by rcases q with q|q;exact(fun q=>gG q.1) q;exact Bool.noConfusion q)];refine wh ?_;exact⟨[],[some 0],_,_,_,t3,rfl,rfl,rfl⟩
@[reducible] def Ay (x:RS):TV→Ob→Nat→Prop:=fun r o c=>
 (x.role.succ=0∧r= .sl 0 [] true∧c=1∧o=gA x)∨(x.role.succ≠0∧r= .tk 1∧c=2∧o=[(0,kP (a6 (bB x))),(1,.arr 25 true ((bB x).out.map ai))])
theorem Q7 (x:RS) (hn:x.au.nodes.length<1000000) (H:sL x.an) (GD:x.an.done≤aE x.an) (G2:jf x):VC E0 17 1 [.ptr 0 0] (gA x) (Ay x):=by
 have Ix:=nJ x.au.nodes x.role.succ hn;have dX:=eG x.an H;have Sy:=Ai x.an H GD;have bh:=G2.hand;by_cases hs:x.role.succ=0
 ·refine en L0 Tryz.f17 ?_;refine sp ?_ ?_<;>intro hz
  ·refine wh ?_;exact⟨[],[some 0],_,_,_,t3,.inl ⟨hs,rfl,rfl,rfl⟩⟩
  ·exact absurd hs hz
 generalize hX:x=X at Ix dX Sy bh hs ⊢;obtain⟨node,⟨c1,c2,c3,c4,c5⟩,role,st,an,base,df,bl,known,want,comes,out⟩:=X;clear G2 H GD hX;cases c4
 ·cases known
  ·refine en L0 Tryz.f17 ?_;refine sp ?_ ?_<;>intro hz
   ·exact absurd hz hs
   refine wh ?_;refine⟨[],[],_,_,_,_,Ix,t3,cw ?_⟩;have et:bB ⟨node,⟨c1,c2,c3,(false),c5⟩,role,st,an,base,df,bl,false,want,comes,out⟩=cp ⟨node,⟨c1,c2,c3,(false),c5⟩,role,st,an,base,df,bl,false,want,comes,out⟩:=by unfold bB;rw[if_neg hs,if_pos (.inl rfl)]
   refine wh ?_;refine⟨[],[some 0],_,_,_,_,bh,t3,cw ?_⟩;refine⟨[],[some 0],_,_,_,_,dm (cp ⟨node,⟨c1,c2,c3,(false),c5⟩,role,st,an,base,df,bl,false,want,comes,out⟩),t3,cw ?_⟩;exact⟨[],[some 0,some 3],_,_,_,t3,.inr ⟨hs,rfl,rfl,(congrArg (fun y=>[(0,kP (a6 y)),(1,.arr 25 true (y.out.map ai))]) et).symm⟩⟩
  ·by_cases yG:role.succ∈c3
   ·rw[decide_eq_true yG]at Ix;refine en L0 Tryz.f17 ?_;refine sp ?_ ?_<;>intro hz
    ·exact absurd hz hs
    refine wh ?_;refine⟨[],[],_,_,_,_,Ix,t3,cw ?_⟩;refine⟨[],[some 1],_,_,_,_,dX,t3,cw ?_⟩;refine sp ?_ ?_<;>intro bF
    ·have et:bB ⟨node,⟨c1,c2,c3,(false),c5⟩,role,st,an,base,df,bl,true,want,comes,out⟩=cp ⟨node,⟨c1,c2,c3,(false),c5⟩,role,st,an,base,df,bl,true,want,comes,out⟩:=by unfold bB;rw[if_neg hs,if_pos (.inr (.inl bF))]
     refine wh ?_;refine⟨[],[some 0],_,_,_,_,bh,t3,cw ?_⟩;refine⟨[],[some 0],_,_,_,_,dm (cp ⟨node,⟨c1,c2,c3,(false),c5⟩,role,st,an,base,df,bl,true,want,comes,out⟩),t3,cw ?_⟩;exact⟨[],[some 0,some 5],_,_,_,t3,.inr ⟨hs,rfl,rfl,(congrArg (fun y=>[(0,kP (a6 y)),(1,.arr 25 true (y.out.map ai))]) et).symm⟩⟩
    ·refine wh ?_;refine⟨[],[some 1],_,_,_,_,Sy,t3,cw ?_⟩;refine sp ?_ ?_<;>intro hd
     ·have et:bB ⟨node,⟨c1,c2,c3,(false),c5⟩,role,st,an,base,df,bl,true,want,comes,out⟩=cp ⟨node,⟨c1,c2,c3,(false),c5⟩,role,st,an,base,df,bl,true,want,comes,out⟩:=by unfold bB;rw[if_neg hs,if_pos (.inr (.inr ⟨yG,.inl hd⟩))]
      refine wh ?_;refine⟨[],[some 0],_,_,_,_,bh,t3,cw ?_⟩;refine⟨[],[some 0],_,_,_,_,dm (cp ⟨node,⟨c1,c2,c3,(false),c5⟩,role,st,an,base,df,bl,true,want,comes,out⟩),t3,cw ?_⟩;exact⟨[],[some 0,some 6],_,_,_,t3,.inr ⟨hs,rfl,rfl,(congrArg (fun y=>[(0,kP (a6 y)),(1,.arr 25 true (y.out.map ai))]) et).symm⟩⟩
     ·have et:bB ⟨node,⟨c1,c2,c3,false,c5⟩,role,st,an,base,df,bl,true,want,comes,out⟩=⟨node,⟨c1,c2,c3,false,c5⟩,role,st,an,base,df,bl,true,want,comes,out⟩:=by unfold bB;rw[if_neg hs,if_neg (fun q=>by rcases q with q|q|⟨q0,q|q⟩;cases q;exact bF q;exact hd q;cases q)]
      refine wh ?_;refine⟨[],[some 0],_,_,_,_,dm ⟨node,⟨c1,c2,c3,false,c5⟩,role,st,an,base,df,bl,true,want,comes,out⟩,t3,cw ?_⟩;exact⟨[],[some 0,some 5],_,_,_,t3,.inr ⟨hs,rfl,rfl,(congrArg (fun y=>[(0,kP (a6 y)),(1,.arr 25 true (y.out.map ai))]) et).symm⟩⟩
   ·rw[decide_eq_false yG]at Ix;refine en L0 Tryz.f17 ?_;refine sp ?_ ?_<;>intro hz
    ·exact absurd hz hs
    refine wh ?_;refine⟨[],[],_,_,_,_,Ix,t3,cw ?_⟩;refine⟨[],[some 1],_,_,_,_,dX,t3,cw ?_⟩;refine sp ?_ ?_<;>intro bF
    ·have et:bB ⟨node,⟨c1,c2,c3,(false),c5⟩,role,st,an,base,df,bl,true,want,comes,out⟩=cp ⟨node,⟨c1,c2,c3,(false),c5⟩,role,st,an,base,df,bl,true,want,comes,out⟩:=by unfold bB;rw[if_neg hs,if_pos (.inr (.inl bF))]
     refine wh ?_;refine⟨[],[some 0],_,_,_,_,bh,t3,cw ?_⟩;refine⟨[],[some 0],_,_,_,_,dm (cp ⟨node,⟨c1,c2,c3,(false),c5⟩,role,st,an,base,df,bl,true,want,comes,out⟩),t3,cw ?_⟩;exact⟨[],[some 0,some 5],_,_,_,t3,.inr ⟨hs,rfl,rfl,(congrArg (fun y=>[(0,kP (a6 y)),(1,.arr 25 true (y.out.map ai))]) et).symm⟩⟩
    ·have et:bB ⟨node,⟨c1,c2,c3,(false),c5⟩,role,st,an,base,df,bl,true,want,comes,out⟩=⟨node,⟨c1,c2,c3,(false),c5⟩,role,st,an,base,df,bl,true,want,comes,out⟩:=by unfold bB;rw[if_neg hs,if_neg (fun q=>by rcases q with q|q|q;cases q;exact bF q;exact yG q.1)]
     refine wh ?_;refine⟨[],[some 0],_,_,_,_,dm ⟨node,⟨c1,c2,c3,(false),c5⟩,role,st,an,base,df,bl,true,want,comes,out⟩,t3,cw ?_⟩;exact⟨[],[some 0,some 4],_,_,_,t3,.inr ⟨hs,rfl,rfl,(congrArg (fun y=>[(0,kP (a6 y)),(1,.arr 25 true (y.out.map ai))]) et).symm⟩⟩
 ·cases known
  ·refine en L0 Tryz.f17 ?_;refine sp ?_ ?_<;>intro hz
   ·exact absurd hz hs
   refine wh ?_;refine⟨[],[],_,_,_,_,Ix,t3,cw ?_⟩;have et:bB ⟨node,⟨c1,c2,c3,(true),c5⟩,role,st,an,base,df,bl,false,want,comes,out⟩=cp ⟨node,⟨c1,c2,c3,(true),c5⟩,role,st,an,base,df,bl,false,want,comes,out⟩:=by unfold bB;rw[if_neg hs,if_pos (.inl rfl)]
   refine wh ?_;refine⟨[],[some 0],_,_,_,_,bh,t3,cw ?_⟩;refine⟨[],[some 0],_,_,_,_,dm (cp ⟨node,⟨c1,c2,c3,(true),c5⟩,role,st,an,base,df,bl,false,want,comes,out⟩),t3,cw ?_⟩;exact⟨[],[some 0,some 3],_,_,_,t3,.inr ⟨hs,rfl,rfl,(congrArg (fun y=>[(0,kP (a6 y)),(1,.arr 25 true (y.out.map ai))]) et).symm⟩⟩
  ·by_cases yG:role.succ∈c3
   ·rw[decide_eq_true yG]at Ix;refine en L0 Tryz.f17 ?_;refine sp ?_ ?_<;>intro hz
    ·exact absurd hz hs
    refine wh ?_;refine⟨[],[],_,_,_,_,Ix,t3,cw ?_⟩;refine⟨[],[some 1],_,_,_,_,dX,t3,cw ?_⟩;refine sp ?_ ?_<;>intro bF
    ·have et:bB ⟨node,⟨c1,c2,c3,(true),c5⟩,role,st,an,base,df,bl,true,want,comes,out⟩=cp ⟨node,⟨c1,c2,c3,(true),c5⟩,role,st,an,base,df,bl,true,want,comes,out⟩:=by unfold bB;rw[if_neg hs,if_pos (.inr (.inl bF))]
     refine wh ?_;refine⟨[],[some 0],_,_,_,_,bh,t3,cw ?_⟩;refine⟨[],[some 0],_,_,_,_,dm (cp ⟨node,⟨c1,c2,c3,(true),c5⟩,role,st,an,base,df,bl,true,want,comes,out⟩),t3,cw ?_⟩;exact⟨[],[some 0,some 5],_,_,_,t3,.inr ⟨hs,rfl,rfl,(congrArg (fun y=>[(0,kP (a6 y)),(1,.arr 25 true (y.out.map ai))]) et).symm⟩⟩
    ·refine wh ?_;refine⟨[],[some 1],_,_,_,_,Sy,t3,cw ?_⟩;refine sp ?_ ?_<;>intro hd
     ·have et:bB ⟨node,⟨c1,c2,c3,(true),c5⟩,role,st,an,base,df,bl,true,want,comes,out⟩=cp ⟨node,⟨c1,c2,c3,(true),c5⟩,role,st,an,base,df,bl,true,want,comes,out⟩:=by unfold bB;rw[if_neg hs,if_pos (.inr (.inr ⟨yG,.inl hd⟩))]
      refine wh ?_;refine⟨[],[some 0],_,_,_,_,bh,t3,cw ?_⟩;refine⟨[],[some 0],_,_,_,_,dm (cp ⟨node,⟨c1,c2,c3,(true),c5⟩,role,st,an,base,df,bl,true,want,comes,out⟩),t3,cw ?_⟩;exact⟨[],[some 0,some 6],_,_,_,t3,.inr ⟨hs,rfl,rfl,(congrArg (fun y=>[(0,kP (a6 y)),(1,.arr 25 true (y.out.map ai))]) et).symm⟩⟩
     ·have et:bB ⟨node,⟨c1,c2,c3,true,c5⟩,role,st,an,base,df,bl,true,want,comes,out⟩=cp ⟨node,⟨c1,c2,c3,true,c5⟩,role,st,an,base,df,bl,true,want,comes,out⟩:=by unfold bB;rw[if_neg hs,if_pos (.inr (.inr ⟨yG,.inr rfl⟩))]
      refine wh ?_;refine⟨[],[some 0],_,_,_,_,bh,t3,cw ?_⟩;refine⟨[],[some 0],_,_,_,_,dm (cp ⟨node,⟨c1,c2,c3,true,c5⟩,role,st,an,base,df,bl,true,want,comes,out⟩),t3,cw ?_⟩;exact⟨[],[some 0,some 6],_,_,_,t3,.inr ⟨hs,rfl,rfl,(congrArg (fun y=>[(0,kP (a6 y)),(1,.arr 25 true (y.out.map ai))]) et).symm⟩⟩
   ·rw[decide_eq_false yG]at Ix;refine en L0 Tryz.f17 ?_;refine sp ?_ ?_<;>intro hz
    ·exact absurd hz hs
    refine wh ?_;refine⟨[],[],_,_,_,_,Ix,t3,cw ?_⟩;refine⟨[],[some 1],_,_,_,_,dX,t3,cw ?_⟩;refine sp ?_ ?_<;>intro bF
    ·have et:bB ⟨node,⟨c1,c2,c3,(true),c5⟩,role,st,an,base,df,bl,true,want,comes,out⟩=cp ⟨node,⟨c1,c2,c3,(true),c5⟩,role,st,an,base,df,bl,true,want,comes,out⟩:=by unfold bB;rw[if_neg hs,if_pos (.inr (.inl bF))]
     refine wh ?_;refine⟨[],[some 0],_,_,_,_,bh,t3,cw ?_⟩;refine⟨[],[some 0],_,_,_,_,dm (cp ⟨node,⟨c1,c2,c3,(true),c5⟩,role,st,an,base,df,bl,true,want,comes,out⟩),t3,cw ?_⟩;exact⟨[],[some 0,some 5],_,_,_,t3,.inr ⟨hs,rfl,rfl,(congrArg (fun y=>[(0,kP (a6 y)),(1,.arr 25 true (y.out.map ai))]) et).symm⟩⟩
    ·have et:bB ⟨node,⟨c1,c2,c3,(true),c5⟩,role,st,an,base,df,bl,true,want,comes,out⟩=⟨node,⟨c1,c2,c3,(true),c5⟩,role,st,an,base,df,bl,true,want,comes,out⟩:=by unfold bB;rw[if_neg hs,if_neg (fun q=>by rcases q with q|q|q;cases q;exact bF q;exact yG q.1)]
     refine wh ?_;refine⟨[],[some 0],_,_,_,_,dm ⟨node,⟨c1,c2,c3,(true),c5⟩,role,st,an,base,df,bl,true,want,comes,out⟩,t3,cw ?_⟩;exact⟨[],[some 0,some 4],_,_,_,t3,.inr ⟨hs,rfl,rfl,(congrArg (fun y=>[(0,kP (a6 y)),(1,.arr 25 true (y.out.map ai))]) et).symm⟩⟩
theorem mN (k:Int) (h:k=12∨k=13∨k=17∨k=14):VC E0 56 0 [.s (.int .i64 k)] [] (RR (.s (.bool true)) 0 []):=by
 rcases h with rfl |rfl |rfl |rfl
 all_goals
  refine en L0 Tryz.f56 ?_;refine rn ?_;exact⟨[],[],_,_,_,t3,rfl,rfl,rfl⟩
theorem U4 (c:CF) (H:cW c) (node:Int) (f t ch e s d:Int) (us:List bo) (h:(aD c node).pred≠0∧f=(aD c node).pred):VC E0 57 0 [.agg (bS c),.s (.int .i64 node),.agg (ai (rD f t ch e s d us))] [] (RR (.s (.bool true)) 0 []):=by
 have hr:=kh c H node;generalize aD c node=r at h hr;obtain⟨ri,rj,rh,rt,U3,YC,YD,YE⟩:=r;refine en L0 Tryz.f57 ?_;refine⟨[],[],_,_,_,_,hr,t3,cw ?_⟩;refine rn ?_;refine sp ?_ ?_<;>intro h1
 ·refine wh ?_;refine sp ?_ ?_<;>intro h2
  ·refine wh ?_;exact⟨[],[],_,_,_,t3,rfl,rfl,rfl⟩
  ·exact absurd h.2 h2
 ·exact absurd h.1 h1
theorem U5 (c:CF) (H:cW c) (node:Int) (f t ch e n s d sl:Int) (h:(aD c node).succ≠0∧f=(aD c node).succ):VC E0 57 0 [.agg (bS c),.s (.int .i64 node),.agg (ai (pS f t ch e n s d sl))] [] (RR (.s (.bool true)) 0 []):=by
 have hr:=kh c H node;generalize aD c node=r at h hr;obtain⟨ri,rj,rh,rt,U3,YC,YD,YE⟩:=r;refine en L0 Tryz.f57 ?_;refine⟨[],[],_,_,_,_,hr,t3,cw ?_⟩;refine rn ?_;refine sp ?_ ?_<;>intro h1
 ·refine wh ?_;refine sp ?_ ?_<;>intro h2
  ·refine wh ?_;exact⟨[],[],_,_,_,t3,rfl,rfl,rfl⟩
  ·exact absurd h.2 h2
 ·exact absurd h.1 h1
theorem U6 (c:CF) (H:cW c) (node:Int) (f t ch e:Int) (us:List bo) (h:(aD c node).head=true) (hf:201≤f∧f≤206):VC E0 57 0 [.agg (bS c),.s (.int .i64 node),.agg (ai (Af f t ch e us))] [] (RR (.s (.bool true)) 0 []):=by
 have hc:=Ag f;rw[decide_eq_true hf]at hc;have hr:=kh c H node;generalize aD c node=r at h hr;obtain⟨ri,rj,rh,rt,U3,YC,YD,YE⟩:=r;refine en L0 Tryz.f57 ?_;refine⟨[],[],_,_,_,_,hr,t3,cw ?_⟩;refine rn ?_;have h:rh=true:=h;subst h;refine wh ?_;refine⟨[],[],_,_,_,_,hc,t3,cw ?_⟩;exact⟨[],[],_,_,_,t3,rfl,rfl,rfl⟩
theorem Q8 (c:CF) (H:cW c) (node f s d:Int) (us:List bo) (hf:oq f) (hn:oq node) (hl:us.length≤4) (hu:us.all (okW false)=true) (h:(aD c node).pred≠0∧f=(aD c node).pred):
 VC E0 25 0 [.agg (bS c),.s (.int .i64 node),.agg (ai (rD f node c.chain c.aB s d us))] [] (RR (.s (.int .i64 0)) 0 []):=by
 have sX:=ue f node c.chain c.aB s d us hf hn H.1 H.2.1 hl;rw[if_pos hu]at sX;have hs:=U4 c H node f node c.chain c.aB s d us h;refine en L0 Tryz.f25 ?_;refine⟨[],[],_,_,_,_,sX,t3,cw ?_⟩
 repeat((first|(refine⟨fun h_=>?_,fun h_=>?_⟩)|(refine ba (fun h_=>?_) (fun h_=>?_))|(refine a9 (fun h_=>?_) (fun h_=>?_)))<;>first|(exfalso;revert h_;decide;done)|(exact absurd rfl h_)|(have eo:=True.intro;clear eo;(conv=>whnf)))
 refine⟨[],[],_,_,_,_,pq c H,t3,cw ?_⟩;refine⟨[],[],_,_,_,_,mN 12 (.inl rfl),t3,cw ?_⟩
 repeat((first|(refine⟨fun h_=>?_,fun h_=>?_⟩)|(refine ba (fun h_=>?_) (fun h_=>?_))|(refine a9 (fun h_=>?_) (fun h_=>?_)))<;>first|(exfalso;revert h_;decide;done)|(exact absurd rfl h_)|(have eo:=True.intro;clear eo;(conv=>whnf)))
 refine⟨[],[],_,_,_,_,hs,t3,cw ?_⟩;exact⟨[],[],_,_,_,t3,rfl,rfl,rfl⟩
theorem Q9 (c:CF) (H:cW c) (node f n s d sl:Int) (hf:oq f) (hn:oq node) (yN:0≤sl∧sl≤512) (h:(aD c node).succ≠0∧f=(aD c node).succ):
 VC E0 25 0 [.agg (bS c),.s (.int .i64 node),.agg (ai (pS f node c.chain c.aB n s d sl))] [] (RR (.s (.int .i64 0)) 0 []):=by
 have sX:=D7 f node c.chain c.aB n s d sl hf hn H.1 H.2.1 yN;have hs:=U5 c H node f node c.chain c.aB n s d sl h;refine en L0 Tryz.f25 ?_;refine⟨[],[],_,_,_,_,sX,t3,cw ?_⟩
 repeat((first|(refine⟨fun h_=>?_,fun h_=>?_⟩)|(refine ba (fun h_=>?_) (fun h_=>?_))|(refine a9 (fun h_=>?_) (fun h_=>?_)))<;>first|(exfalso;revert h_;decide;done)|(exact absurd rfl h_)|(have eo:=True.intro;clear eo;(conv=>whnf)))
 refine⟨[],[],_,_,_,_,pq c H,t3,cw ?_⟩;refine⟨[],[],_,_,_,_,mN 13 (.inr (.inl rfl)),t3,cw ?_⟩
 repeat((first|(refine⟨fun h_=>?_,fun h_=>?_⟩)|(refine ba (fun h_=>?_) (fun h_=>?_))|(refine a9 (fun h_=>?_) (fun h_=>?_)))<;>first|(exfalso;revert h_;decide;done)|(exact absurd rfl h_)|(have eo:=True.intro;clear eo;(conv=>whnf)))
 refine⟨[],[],_,_,_,_,hs,t3,cw ?_⟩;exact⟨[],[],_,_,_,t3,rfl,rfl,rfl⟩
theorem Iy (c:CF) (H:cW c) (node f:Int) (u:bo) (hf:201≤f∧f≤206) (hn:oq node) (hu:okW true u=true) (h:(aD c node).head=true):
 VC E0 25 0 [.agg (bS c),.s (.int .i64 node),.agg (ai (Af f node c.chain c.aB [u]))] [] (RR (.s (.int .i64 0)) 0 []):=by
 have sX:=Gs f node c.chain c.aB u (.inr hf) hn H.1 H.2.1 hu;have hs:=U6 c H node f node c.chain c.aB [u] h hf;refine en L0 Tryz.f25 ?_;refine⟨[],[],_,_,_,_,sX,t3,cw ?_⟩
 repeat((first|(refine⟨fun h_=>?_,fun h_=>?_⟩)|(refine ba (fun h_=>?_) (fun h_=>?_))|(refine a9 (fun h_=>?_) (fun h_=>?_)))<;>first|(exfalso;revert h_;decide;done)|(exact absurd rfl h_)|(have eo:=True.intro;clear eo;(conv=>whnf)))
 refine⟨[],[],_,_,_,_,pq c H,t3,cw ?_⟩;refine⟨[],[],_,_,_,_,mN 17 (.inr (.inr (.inl rfl))),t3,cw ?_⟩
 repeat((first|(refine⟨fun h_=>?_,fun h_=>?_⟩)|(refine ba (fun h_=>?_) (fun h_=>?_))|(refine a9 (fun h_=>?_) (fun h_=>?_)))<;>first|(exfalso;revert h_;decide;done)|(exact absurd rfl h_)|(have eo:=True.intro;clear eo;(conv=>whnf)))
 refine⟨[],[],_,_,_,_,hs,t3,cw ?_⟩;exact⟨[],[],_,_,_,t3,rfl,rfl,rfl⟩
@[reducible] def nY (y:RS):TV→Ob→Nat→Prop:=RR (.tk 1) 2 [(0,kP (a6 y)),(1,.arr 25 true (y.out.map ai))]
theorem Kx (x:RS) (f s d:Int) (us:List bo) (H:cW x.au) (hf:oq f) (hn:oq x.node) (hu:us.all (okW false)=true) (h:(aD x.au x.node).pred≠0∧f=(aD x.au x.node).pred)
 (G:e7 x) (htj:x.role.tail=true→x.role.jY=false) (hl:us.length≤4) (hd:∀u∈us,u.data.length≤2048∧Nr u)
 (sH:∀(i:Nat) (h:i<(bt us (aE x.an)).length),e7 (((bt us (aE x.an)).take i).foldl rC x)∧Er (((bt us (aE x.an)).take i).foldl rC x) (bt us (aE x.an))[i])
 (G1:e7 (fE x us)) (G2:jf (gL (B4 x d us))) (G3:e7 (nT x us)):
 VC E0 8 1 [.ptr 0 0,.agg (ai (rD f x.node x.au.chain x.au.aB s d us))] (gA x) (nY (pe x d us)):=by
 have Ra:=Q8 x.au H x.node f s d us hf hn hl hu h;have Pe:=Kr x f x.node x.au.chain x.au.aB s d us G htj hl hd sH G1 G2 G3;refine en L0 Tryz.f8 ?_;refine⟨[],[],_,_,_,_,Ra,t3,cw ?_⟩
 ((first|(refine⟨fun h_=>?_,fun h_=>?_⟩)|(refine ba (fun h_=>?_) (fun h_=>?_))|(refine a9 (fun h_=>?_) (fun h_=>?_)))<;>first|(exfalso;revert h_;decide;done)|(exact absurd rfl h_)|(have eo:=True.intro;clear eo;((conv=>whnf)<;>repeat(with_reducible refine D1 ?_)<;>conv=>whnf)))
 refine sp ?_ ?_<;>intro U7
 ·exact absurd (show(12:Int)=17 from U7) (by decide)
 refine wh ?_;refine sp ?_ ?_<;>intro k12
 ·refine wh ?_;refine⟨[],[some 0],_,_,_,_,Pe,t3,cw ?_⟩;refine⟨[],[some 0],_,_,_,_,dm (pe x d us),t3,cw ?_⟩;exact⟨[],[some 0,some 4],_,_,_,t3,rfl,rfl,rfl⟩
 ·exact absurd rfl k12
theorem Ky (x:RS) (f n s d sl:Int) (H:cW x.au) (hf:oq f) (hn:oq x.node) (yN:0≤sl∧sl≤512) (h:(aD x.au x.node).succ≠0∧f=(aD x.au x.node).succ)
 (Hw:sL x.an) (G1:e7 (B9 x s)) (hh:(g9 x.an (max x.bl s) 0).isSome=true) (hd:0≤d∧d≤1000000) (G2:jf (uY x s d)):
 VC E0 8 1 [.ptr 0 0,.agg (ai (pS f x.node x.au.chain x.au.aB n s d sl))] (gA x) (nY (kM x s d)):=by
 have Ra:=Q9 x.au H x.node f n s d sl hf hn yN h;have Pe:=Ot x f x.node x.au.chain x.au.aB n s d sl (by have:=H.2.2.1;omega) Hw G1 hh hd G2;refine en L0 Tryz.f8 ?_;refine⟨[],[],_,_,_,_,Ra,t3,cw ?_⟩
 ((first|(refine⟨fun h_=>?_,fun h_=>?_⟩)|(refine ba (fun h_=>?_) (fun h_=>?_))|(refine a9 (fun h_=>?_) (fun h_=>?_)))<;>first|(exfalso;revert h_;decide;done)|(exact absurd rfl h_)|(have eo:=True.intro;clear eo;((conv=>whnf)<;>repeat(with_reducible refine D1 ?_)<;>conv=>whnf)))
 refine sp ?_ ?_<;>intro U7
 ·exact absurd (show(13:Int)=17 from U7) (by decide)
 refine wh ?_;refine sp ?_ ?_<;>intro k12
 ·exact absurd (show(13:Int)=12 from k12) (by decide)
 refine wh ?_;refine sp ?_ ?_<;>intro k14
 ·exact absurd (show(13:Int)=14 from k14) (by decide)
 refine wh ?_;refine sp ?_ ?_<;>intro k13
 ·refine wh ?_;refine⟨[],[some 0],_,_,_,_,Pe,t3,cw ?_⟩;refine⟨[],[some 0],_,_,_,_,dm (kM x s d),t3,cw ?_⟩;exact⟨[],[some 0,some 4],_,_,_,t3,rfl,rfl,rfl⟩
 ·exact absurd rfl k13
theorem Kz (x:RS) (f:Int) (u:bo) (H:cW x.au) (hf:201≤f∧f≤206) (hn:oq x.node) (hu:okW true u=true) (h:(aD x.au x.node).head=true)
 (G:e7 x) (ho:x.df=true) (hj:bQ x.st.t u.ak u.num=0) (hd:iE x.an<16) (U:Er x (u2 x u)) (G1:e7 (jg x u)) (G2:jf (uj x u)):
 VC E0 8 1 [.ptr 0 0,.agg (ai (Af f x.node x.au.chain x.au.aB [u]))] (gA x) (nY (gz x u)):=by
 have Ra:=Iy x.au H x.node f u hf hn hu h;have Pe:=Om x f x.node x.au.chain x.au.aB u G ho hj hd U G1 G2;refine en L0 Tryz.f8 ?_;refine⟨[],[],_,_,_,_,Ra,t3,cw ?_⟩
 ((first|(refine⟨fun h_=>?_,fun h_=>?_⟩)|(refine ba (fun h_=>?_) (fun h_=>?_))|(refine a9 (fun h_=>?_) (fun h_=>?_)))<;>first|(exfalso;revert h_;decide;done)|(exact absurd rfl h_)|(have eo:=True.intro;clear eo;((conv=>whnf)<;>repeat(with_reducible refine D1 ?_)<;>conv=>whnf)))
 refine sp ?_ ?_<;>intro U7
 ·refine wh ?_;refine⟨[],[some 0],_,_,_,_,Pe,t3,cw ?_⟩;refine⟨[],[some 0],_,_,_,_,dm (gz x u),t3,cw ?_⟩;exact⟨[],[some 0,some 4],_,_,_,t3,rfl,rfl,rfl⟩
 ·exact absurd rfl U7
theorem Et:VC E0 50 0 [] [] (RR (.ptr 0 0) 1 [(0,Yz JX)]):=by
 refine en L0 Tryz.f50 ?_;exact⟨[],[some 0],_,_,_,t3,rfl,rfl,rfl⟩
theorem Ou (c:CF) (h:c.aB≠0):VC E0 45 0 [.agg (bS c),.agg ug] [] (RR (.s (.bool false)) 0 []):=by
 refine en L0 Tryz.f45 ?_;refine sp ?_ ?_<;>intro h1
 ·refine wh ?_;refine sp ?_ ?_<;>intro h2
  ·exact absurd h2 h
  ·refine wh ?_;exact⟨[],[],_,_,_,t3,rfl,rfl,rfl⟩
 ·refine wh ?_;exact⟨[],[],_,_,_,t3,rfl,rfl,rfl⟩
@[reducible] def nO (x:RS) (c:CF):RS:={x with au:=c,role:=aD c x.node,base:=aE x.an,bl:=0,known:=false,want:=0,comes:=JX}
theorem Ov (x:RS) (c:CF) (H:cW c) (Hw:sL x.an):VC E0 51 1 [.ptr 0 0,.agg (bS c)] (gA x) (RR (.cY []) 1 (gA (nO x c))):=by
 have hcp:=Kd [c] (by show(1:Nat)<10000;decide) (fun d hd=>by simp at hd;subst hd;have:=H.2.2.1;omega);have vp:=kh c H x.node;have dX:=eG x.an Hw;refine en L0 Tryz.f51 ?_;refine⟨[2],[],_,_,_,_,hcp,t3,cw ?_⟩;refine⟨⟨by decide,by simp⟩,?_⟩;refine wh ?_;refine⟨bS c,rfl,?_⟩;refine wh ?_;refine⟨[],[],_,_,_,_,vp,t3,cw ?_⟩;refine⟨[],[some 4],_,_,_,_,dX,t3,cw ?_⟩;refine⟨[],[],_,_,_,_,Et,t3,cw ?_⟩;exact⟨[],[some 0],_,_,_,t3,rfl,rfl,rfl⟩
theorem Rb (c:CF) (node:Int) (H:cW c) (hn:1≤node∧node≤24) (hf:c.fresh=false) (hi:(aD c node).DZ=true):VC E0 20 0 [.s (.int .i64 node),.agg (bS c)] [] (RR (.cY [.ptr 0 0,.s (.int .i64 0)]) 1 (gA (sG node c))):=by
 have fG:=Ou c (by have:=H.2.1;omega);have lq:=Ih node;rw[decide_eq_true hn]at lq;have vp:=kh c H node;have hw0:sL ⟨0,0,[]⟩:=⟨⟨by decide,by decide⟩,⟨by decide,by decide⟩,by decide,fun u hu=>by cases hu⟩;have fH:=Ov ⟨node,⟨0,0,[],false,0⟩,tY,⟨0,[],iB⟩,⟨0,0,[]⟩,0,false,0,false,0,JX,[]⟩ c H hw0;obtain⟨r,hr⟩:∃r,r=aD c node:=⟨_,rfl⟩;rw[←hr]at vp hi;obtain⟨ri,rj,rh,rt,U3,YC,YD,YE⟩:=r;have hi:ri=true:=hi;subst hi;obtain⟨c1,c2,c3,c4,c5⟩:=c;have hf:c4=false:=hf;subst hf;refine en L0 Tryz.f20 ?_;refine⟨[],[],_,_,_,_,fG,t3,cw ?_⟩;refine⟨[],[],_,_,_,_,lq,t3,cw ?_⟩;refine⟨[],[],_,_,_,_,vp,t3,cw ?_⟩
 refine⟨[],[],_,_,_,_,Od,t3,cw ?_⟩;refine⟨[],[],_,_,_,_,QS 0,t3,cw ?_⟩;refine⟨[],[],_,_,_,_,Et,t3,cw ?_⟩;refine⟨[],[some 4],_,_,_,_,fH,t3,cw ?_⟩;exact⟨[],[some 4],_,_,_,t3,rfl,rfl,rfl⟩
def YH (u:bo):Bool:=decide (0≤u.seq∧u.seq≤18446744073709551615)&&decide (0≤u.num∧u.num≤18446744073709551615)&&decide (0≤u.cB∧u.cB≤18446744073709551615)&&decide (0≤u.key∧u.key≤4294967295)
def abP (v:Vs):Bool:=decide (0≤v.cB∧v.cB≤18446744073709551615)&&decide (0≤v.seq∧v.seq≤18446744073709551615)&&decide (v.data.length≤2048)
def YI (s:dG):Bool:=s.bs.all fun e=>e.2.all abP&&decide (e.2.length<100000)
def KA (r:fB):Bool:=decide (0≤r.ak∧r.ak≤6)
def U8 (t:dN):Bool:=KA t.r1&&KA t.r2&&KA t.r3&&KA t.r4&&KA t.r5&&KA t.r6
def U9 (w:gy):Bool:=decide (0≤w.low∧w.low≤50000)&&decide (0≤w.done∧w.done≤50000)&&decide (w.l.length≤10000)&&w.l.all fun u=>decide (u.data.length≤2048)
def yg (x:RS):Bool:=U9 x.an&&YI x.st&&U8 x.st.t&&decide (x.an.done≤aE x.an)&&decide (aE x.an≤40000)&&decide (x.st.bs.length<13)&&decide (x.out.length<50000)
def Iz (x:RS):Bool:=U9 x.an&&decide (x.out.length<50000)&&(decide (x.role.succ=0)|| !x.known||(g9 x.an x.bl 4).isSome)
def upB (x:RS) (u:bo):Bool:=YH u&&decide (o9 u=0)&&decide (u.seq - 1=aE x.an)&&decide (1≤u.seq)&&decide (x.an.l.length<9999)
def YJ:RS→List bo→Bool
 |_,[]=>true
 |x,u::l=>yg x&&upB x u&&YJ (rC x u) l
def Ow (a:Int):Bool:=decide ((1≤a∧a≤24)∨(201≤a∧a≤206))
def abQ (x:RS) (m:Lr):Bool:=decide (m.to=x.node)&&decide (m.chain=x.au.chain)&&decide (m.aB=x.au.aB)&&decide (m.num=0)&&decide (m.cB=0)&&decide (m.slot=0)&&decide (m.code=0)&&m.data.isEmpty
def abR (x:RS) (m:Lr):Bool:=decide (m.to=x.node)&&decide (m.chain=x.au.chain)&&decide (m.aB=x.au.aB)&&decide (m.cB=0)&&decide (m.code=0)&&m.us.isEmpty&&m.data.isEmpty
def abS (x:RS) (m:Lr):Bool:=
 abQ x m&&(decide (cW x.au)&&(Ow m.DY&&(Ow x.node&&(m.us.all (okW false)&&(decide ((aD x.au x.node).pred≠0∧m.DY=(aD x.au x.node).pred)&&(yg x&&((!x.role.tail|| !x.role.jY)&&(decide (m.us.length≤4)&&
 ((m.us.all fun u=>decide (u.data.length≤2048)&&YH u)&&(YJ x (bt m.us (aE x.an))&&(yg (fE x m.us)&&(Iz (gL (B4 x m.done m.us))&&yg (nT x m.us)))))))))))))
def abT (x:RS) (m:Lr):Bool:=
 abR x m&&(decide (cW x.au)&&(Ow m.DY&&(Ow x.node&&(decide (0≤m.slot∧m.slot≤512)&&(decide ((aD x.au x.node).succ≠0∧m.DY=(aD x.au x.node).succ)&&(U9 x.an&&(yg (B9 x m.seq)&&
 ((g9 x.an (max x.bl m.seq) 0).isSome&&(decide (0≤m.done∧m.done≤1000000)&&Iz (uY x m.seq m.done))))))))))
def abU (x:RS) (m:Lr) (u:bo):Bool:=
 (decide (m.to=x.node)&&decide (m.chain=x.au.chain)&&decide (m.aB=x.au.aB)&&decide (m.num=0)&&decide (m.seq=0)&&decide (m.done=0)&&decide (m.cB=0)&&decide (m.slot=0)&&decide (m.code=0)&&m.data.isEmpty)&&
 (decide (cW x.au)&&(decide (201≤m.DY∧m.DY≤206)&&(Ow x.node&&(okW true u&&((aD x.au x.node).head&&(yg x&&(x.df&&(decide (bQ x.st.t u.ak u.num=0)&&(decide (iE x.an<16)&&(upB x (u2 x u)&&(yg (jg x u)&&Iz (uj x u))))))))))))
def Ox (x:RS) (m:Lr):Bool:=
 if m.kind=12 then abS x m else if m.kind=13 then abT x m else if m.kind=17 then(match m.us with|[u]=>abU x m u|_=>false)else false
def Va (x:RS):Bool:=decide (x.au.nodes.length<1000000)&&(decide (x.an.done≤aE x.an)&&Iz x)
section
variable {σ α:Type}
end
def adg (n:Nat) (w:xW) (m:Lr):Bool:=decide (w.more.length≤1000)&&(decide (w.told.length≤1000)&&(if 1≤m.to∧m.to≤n then(match w.all[(m.to - 1).toNat]? with
 |some x=>Ox x m&&decide ((H9 x m).out.length≤1000)
 |none=>false)else true))
def ae3 (w:xW) (i:Nat):Bool:=decide (w.more.length≤1000)&&(match w.all[i]? with
 |some x=>Va x&&(decide ((bB x).out.length≤1000)&&x.out.isEmpty)
 |none=>false)
@[reducible] def Wd:Type:=List RS×List Lr×List Lr
def ae4 (n:Nat) (all:List RS) (i:Nat):Wd:=match all[0]? with
 |some x=>(let y:=H9 x (pf (gM n) 1 (1+(i:Int) % 6) i);(all.set 0 (a6 y),y.out,[]))
 |none=>(all,[],[])
def adh (n:Nat) (all:List RS) (i:Nat):Bool:=match all[0]? with
 |some x=>Ox x (pf (gM n) 1 (1+(i:Int) % 6) i)
 |none=>false
def YK (x:RS):Bool:=YI x.st&&decide (0≤x.st.e∧x.st.e≤18446744073709551615)&&(hY x.st.t).all (fun r=>decide (0≤r.ak∧r.ak≤6)&&decide (0≤r.num∧r.num≤18446744073709551615)&&decide (0≤r.seq∧r.seq≤18446744073709551615)&&decide (0≤r.code∧r.code≤255)&&decide (0≤r.cB∧r.cB≤18446744073709551615))&&decide (x.st.bs.length≤12)&&(bN x.st.bs).all fun k=>decide (0≤k∧k≤4294967295)
def YL (a b:Vs):Bool:=decide (a.cB=b.cB)&&decide (a.seq=b.seq)&&decide (a.data=b.data)
def Vb {α:Type} (f:α→α→Bool):List α→List α→Bool
 |[],[]=>true
 |a::l,b::m=>f a b&&Vb f l m
 |_,_=>false
def Az (a b:fB):Bool:=decide (a.ak=b.ak)&&decide (a.num=b.num)&&decide (a.seq=b.seq)&&decide (a.code=b.code)&&decide (a.cB=b.cB)
def abV (a b:dG):Bool:=decide (a.e=b.e)&&(Vb (fun p q=>decide (p.1=q.1)&&Vb YL p.2 q.2) a.bs b.bs&&(Az a.t.r1 b.t.r1&&(Az a.t.r2 b.t.r2&&(Az a.t.r3 b.t.r3&&(Az a.t.r4 b.t.r4&&(Az a.t.r5 b.t.r5&&Az a.t.r6 b.t.r6))))))
def ae5 (n:Nat) (i:Nat) (all:List RS):Bool:=decide (all.length=n)&&(match all[0]? with
 |some x0=>all.all fun x=>decide (x.st.e=(i:Int))&&(decide (x.an.done=(i:Int))&&(abV x.st x0.st&&YK x))
 |none=>false)
@[reducible] noncomputable def abW (x:RS) (k:Nat):TO:=.cells [.s (.int .i64 x.node),.s (.int .i64 x.au.chain),.s (.int .u64 x.au.aB),.sl 1 (x.au.nodes.map aL) false,.s (.bool x.au.fresh),.s (.int .i64 x.au.join),
 .s (.bool x.role.DZ),.s (.bool x.role.jY),.s (.bool x.role.head),.s (.bool x.role.tail),.s (.bool x.role.waits),.s (.int .i64 x.role.place),.s (.int .i64 x.role.pred),.s (.int .i64 x.role.succ),
 .ptr k 0,.own (UU x.an),.s (.int .u64 x.base),.s (.bool x.df),.s (.int .u64 x.bl),.s (.bool x.known),SB,.s (.int .i64 x.want),.own (Yz x.comes),.own (.arr 25 true (x.out.map ai))]
theorem yk (x:RS):VC E0 14 1 [.ptr 0 0] (gA x) (RR (.ptr 1 0) 2 [(0,abW x 1),(1,UZ x.st)]):=by
 refine en L0 Tryz.f14 ?_
 repeat((first|(refine⟨fun h_=>?_,fun h_=>?_⟩)|(refine ba (fun h_=>?_) (fun h_=>?_))|(refine a9 (fun h_=>?_) (fun h_=>?_)))<;>first|(exfalso;revert h_;decide;done)|(exact absurd rfl h_)|(have eo:=True.intro;clear eo;(conv=>whnf)))
 exact⟨[],[some 0,some 1],_,_,_,t3,rfl,rfl,rfl⟩
theorem IA (x:RS):VC E0 11 1 [.ptr 0 0] (gA x) (RR (.s (.int .u64 x.st.e)) 1 (gA x)):=by
 have dX:=Oe x.st;refine en L0 Tryz.f11 ?_;refine⟨[],[some 0],_,_,_,_,yk x,t3,cw ?_⟩;refine⟨[],[some 2],_,_,_,_,dX,t3,cw ?_⟩;exact⟨[],[some 0],_,_,_,t3,rfl,rfl,rfl⟩
theorem IB (x:RS):VC E0 12 1 [.ptr 0 0] (gA x) (RR (.s (.int .u64 x.an.done)) 1 (gA x)):=by
 have hd:=mM x.an;refine en L0 Tryz.f12 ?_
 repeat((first|(refine⟨fun h_=>?_,fun h_=>?_⟩)|(refine ba (fun h_=>?_) (fun h_=>?_))|(refine a9 (fun h_=>?_) (fun h_=>?_)))<;>first|(exfalso;revert h_;decide;done)|(exact absurd rfl h_)|(have eo:=True.intro;clear eo;(conv=>whnf)))
 refine⟨[],[some 1],_,_,_,_,hd,t3,cw ?_⟩;exact⟨[],[some 0],_,_,_,t3,rfl,rfl,rfl⟩
theorem Rc (l:List Int) (hl:l.length<1000000):VC E0 13 0 [.sl 1 (bM l) false,.sl 1 (bM l) false] [] (RR (.s (.bool true)) 0 []):=by
 refine en L0 Tryz.f13 ?_;refine sp ?_ ?_<;>intro S6
 ·exact absurd rfl S6
 refine wh ?_;refine⟨fun k f o c=>∃i:Nat,i≤l.length∧k=l.length - i∧c=0∧f=[(0,.sl 1 (bM l) false),(1,.sl 1 (bM l) false),(5,.s (.int .i64 i))]∧o=[],⟨l.length,?_⟩,?_⟩
 ·exact⟨[],[],_,_,_,t3,⟨0,Nat.zero_le _,rfl,rfl,rfl,rfl⟩⟩
 ·rintro k f1 o1 c1 ⟨i,hi,rfl,rfl,rfl,rfl⟩;refine wh ?_;refine sp ?_ ?_<;>intro h
  ·have h:i<l.length:=o5.1 h;refine wh ?_;refine lW h ?_;refine wh ?_;refine lW h ?_;refine wh ?_;refine sp ?_ ?_<;>intro hv
   ·exact absurd rfl hv
   ·refine wh ?_;have fI:IntKind.i64.wrap ((i:Int)+1)=((i+1:Nat):Int):=IntWalk.i64_in _ om;rw[fI];refine⟨l.length - (i+1),?_,om⟩;exact⟨[],[],_,_,_,t3,⟨i+1,h,rfl,rfl,rfl,rfl⟩⟩
  ·refine wh ?_;exact⟨[],[],_,_,_,t3,rfl,rfl,rfl⟩
theorem Oy (n:Int) (_:0≤n∧n≤1000):IntKind.u8.wrap n=n % 256:=rfl
theorem yl (c:CF) (to ak num:Int) (hc:1≤ak∧ak≤6) (hn:0≤num∧num≤1000):VC E0 9 0 [.agg (bS c),.s (.int .i64 to),.s (.int .i64 ak),.s (.int .u64 num)] [] (RR (.agg (ai (pf c to ak num))) 0 []):=by
 have h1:num.tmod 5=num % 5:=Int.tmod_eq_emod_of_nonneg hn.1;have h2:IntKind.i64.wrap (200+ak)=200+ak:=IntWalk.i64_in _ om;refine en L0 Tryz.f9 ?_;rw[h1,h2,IntWalk.u32_in _ (show _ by omega),Oy ak om,Oy num om];exact⟨[4],[],_,_,_,t3,rfl,rfl,rfl⟩
@[reducible] def We (k:Nat):List Int:=(List.range k).map fun(i:Nat)=>(i:Int)+1
theorem Oz (k:Nat):We (k+1)=We k++[(k:Int)+1]:=by unfold We;rw[List.range_succ,List.map_append];rfl
@[reducible] def Rd (n k:Nat):List RS:=(List.range k).map fun(i:Nat)=>sG ((i:Int)+1) (gM n)
theorem Eu (n k:Nat):Rd n (k+1)=Rd n k++[sG ((k:Int)+1) (gM n)]:=by unfold Rd;rw[List.range_succ,List.map_append];rfl
theorem Re (n k:Nat):(Rd n k).length=k:=by simp[Rd]
@[reducible] noncomputable def bq (x:RS):List TV:=[.own (kP x)]
@[reducible] noncomputable def kQ (l:List RS):TO:=.bV 1 (l.map bq) []
@[reducible] def YM (l:List Int):TO:=.cells [.s (.int .i64 0),.s (.int .u64 1),.own (.arr 1 true (l.map aL)),.s (.bool false),.s (.int .i64 0)]
theorem YN (n k:Nat) (y:List TV):(((Rd n k).map bq++[y]).set (((Rd n k).map bq).length+0) (bq (sG ((k:Nat)+1) (gM n))))=(Rd n (k+1)).map bq:=by
 rw[Eu,List.map_append,List.set_append_right _ _ (by simp)];simp
theorem okB:∀n∈[1,2,3,4,5],cW (gM n)∧∀i<n,(aD (gM n) ((i:Int)+1)).DZ=true:=by decide+kernel
@[reducible] def YO:Nat→List Int→TV
 |0,l=>.own (.arr 1 true (l.map aL))
 |_+1,l=>.sl 1 (l.map aL) false
theorem OA (n:Nat) (hn:n∈[1,2,3,4,5]):VC E0 7 0 [.s (.int .i64 n)] [] (RR (.cY [.agg (bS (gM n)),.tk 0]) 1 [(0,kQ (fC n))]):=by
 have hn5:1≤n∧n≤5:=by simp at hn;omega
 obtain⟨hR,hI⟩:=okB n hn;refine en L0 Tryz.f7 ?_;refine⟨fun kk f o c=>∃k:Nat,k≤n∧kk=n - k∧c=2∧f=[(0,.s (.int .i64 n)),(2,.ptr 0 0),(4,.ptr 1 0),(5,.sl 0 [] true),(6,.s (.int .i64 ((k:Int)+1)))]∧o=[(0,.cells ug),(1,YM (We k))],⟨n,?_⟩,?_⟩
 ·exact⟨[],[some 0,some 1],_,_,_,t3,⟨0,Nat.zero_le _,rfl,rfl,rfl,rfl⟩⟩
 rintro kk f1 o1 c1 ⟨k,hk,rfl,rfl,rfl,rfl⟩;refine wh ?_;refine sp ?_ ?_<;>intro bF
 ·have bF:(k:Int)+1≤n:=bF;have fI:IntKind.i64.wrap ((k:Int)+1+1)=((k+1:Nat):Int)+1:=IntWalk.i64_in _ om;refine wh ?_;refine⟨by simp<;>omega,?_⟩;refine wh ?_;rw[fI];refine⟨n - (k+1),?_,om⟩;refine⟨[],[some 0,some 1],?_⟩
  iterate 3 constructor
  refine⟨⟨?_,?_,?_⟩,⟨k+1,om,rfl,rfl,rfl,rfl⟩⟩
  all_goals(repeat' first|exact LF|constructor)
  all_goals exact Lz.of (by show _=(We (k+1)).map aL;rw[Oz,List.map_append];rfl)
 have bF:¬(k:Int)+1≤n:=bF;obtain rfl:k=n:=by omega
 clear bF hk;refine wh ?_;refine⟨fun kk f o c=>∃j:Nat,j≤k∧kk=k - j∧c=3∧f=[(0,.s (.int .i64 k)),(2,.ptr 0 0),(4,.ptr 1 0),(5,.tk 2),(7,.s (.int .i64 ((j:Int)+1)))]∧o=[(0,.cells ug),(1,.cells [.s (.int .i64 0),.s (.int .u64 1),YO j (We k),.s (.bool false),.s (.int .i64 0)]),(2,kQ (Rd k j))],⟨k,?_⟩,?_⟩
 ·exact⟨[],[some 0,some 1,none],_,_,_,t3,⟨0,Nat.zero_le _,rfl,rfl,rfl,rfl⟩⟩
 rintro kk f1 o1 c1 ⟨j,hj,rfl,rfl,rfl,rfl⟩;have KW:=fun bF:(j:Int)+1≤k=>Rb (gM k) ((j:Int)+1) hR om rfl (hI j om);have fI:IntKind.i64.wrap ((j:Int)+1+1)=((j+1:Nat):Int)+1:=IntWalk.i64_in _ om;have Ur:=Eu k j;have K9:=Re k j;cases j with
 |zero=>
  refine wh ?_;refine sp ?_ ?_<;>intro bF
  ·refine wh ?_;refine⟨[3],[],_,_,_,_,KW bF,t3,cw ?_⟩;refine⟨by simp<;>omega,?_⟩;refine wh ?_;rw[fI];refine⟨k - (0+1),?_,om⟩;refine⟨[],[some 0,some 1,some 6],_,_,_,⟨tq,.cons tq (.cons tq (.cons (.bV (iO:=[(_,bq (sG ((0:Nat)+1) (gM k)))]) .one (Lw.of (YN k 0 _)) (.q1 tq)) .nil)),by rfl⟩,⟨0+1,om,rfl,rfl,rfl,rfl⟩⟩
  ·exact absurd (show((0:Nat):Int)+1≤k from by omega) bF
 |succ j=>
  refine wh ?_;refine sp ?_ ?_<;>intro bF
  ·refine wh ?_;refine⟨[],[],_,_,_,_,KW bF,t3,cw ?_⟩;refine⟨by simp<;>omega,?_⟩;refine wh ?_;rw[fI];refine⟨k - ((j+1)+1),?_,om⟩;refine⟨[],[some 0,some 1,some 5],_,_,_,⟨tq,.cons tq (.cons tq (.cons (.bV (iO:=[(_,bq (sG (((j+1):Nat)+1) (gM k)))]) .one (Lw.of (YN k (j+1) _)) (.q1 tq)) .nil)),by rfl⟩,⟨(j+1)+1,om,rfl,rfl,rfl,rfl⟩⟩
  have bF:¬((j+1:Nat):Int)+1≤k:=bF;obtain rfl:j+1=k:=by omega
  refine wh ?_;exact⟨[],[some 2],_,_,_,t3,rfl,rfl,rfl⟩
end Go.M
