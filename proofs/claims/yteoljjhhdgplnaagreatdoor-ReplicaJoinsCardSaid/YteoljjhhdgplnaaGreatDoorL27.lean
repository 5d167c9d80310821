/-
  Part 27 of the library that the proof leans on.
-/
import Derived.Test.YteoljjhhdgplnaaGreatDoorL12
import Derived.Test.YteoljjhhdgplnaaGreatDoorL26
import Derived.Test.YteoljjhhdgplnaaGreatDoorL23
import Derived.Test.YteoljjhhdgplnaaGreatDoorL22
import Derived.Test.YteoljjhhdgplnaaGreatDoorL25
namespace Go.M
open Go Go.Proofs
set_option maxRecDepth 100000
set_option maxHeartbeats 4000000
@[reducible] def Bw (x:RS) (s:Int):RS:={x with bu:=max x.bu s,known:=true}
@[reducible] def GF (x:RS) (s d:Int):RS:=if x.role.succ∈x.ak.nodes then cp (Bw x s) d else Bw x s
theorem PS {x:RS} {s d:Int} (hh:(fm x.an (max x.bu s) 0).isSome=true):xe x s d=(if(x.bu<(GF x s d).bu∧(GF x s d).bu<au (GF x s d).an)∨x.known=false then dZ (GF x s d)else GF x s d):=by
 show(if x.bu<(GF x s d).bu∧(GF x s d).bu<au (GF x s d).an∨(fm x.an (max x.bu s) 0).isSome=false∨x.known=false then dZ (GF x s d)else GF x s d)=_;rw[hh]
 congr 1
 simp
theorem Ug (x:RS) (f t ch e n s d sl:Int) (hn:x.ak.nodes.length<1000000) (H:nN x.an) (G1:gX (Bw x s)) (hh:(fm x.an (max x.bu s) 0).isSome=true) (hd:0≤d∧d≤1000000) (G2:nP (GF x s d)):
 VC E0 30 1 [.ptr 0 0,.agg (bp (kL f t ch e n s d sl))] (iz x) (RR (.cB []) 1 (iz (xe x s d))):=by
 rw[PS hh];obtain⟨l,hl⟩:=Option.isSome_iff_exists.1 hh;have v8:=FX x.an H (max x.bu s) 0 (by decide) l hl;have xu:=fQ x.ak.nodes x.role.succ hn;have dM:=G1.done d hd;have eV:=bX (GF x s d).an G2.an;have bj:=G2.hand;have ji:=xo (Bw x s) d;have zK:(if s>x.bu then s else x.bu)=max x.bu s:=by split<;>omega
 obtain⟨node,ak,role,st,an,base,dq,bu,known,want,comes,out⟩:=x;cases known
 ·refine en L0 Tryz.f30 ?_;rw[show(if(kL f t ch e n s d sl).seq>(⟨node,ak,role,st,an,base,dq,bu,false,want,comes,out⟩:RS).bu then(kL f t ch e n s d sl).seq else(⟨node,ak,role,st,an,base,dq,bu,false,want,comes,out⟩:RS).bu)=max bu s from zK];refine⟨[],[some 2],_,_,_,_,v8,t3,cw ?_⟩;refine⟨[],[],_,_,_,_,xu,t3,cw ?_⟩;by_cases yx:role.succ∈ak.nodes
  ·have e2:GF ⟨node,ak,role,st,an,base,dq,bu,false,want,comes,out⟩ s d=cp (Bw ⟨node,ak,role,st,an,base,dq,bu,false,want,comes,out⟩ s) d:=if_pos yx;rw[decide_eq_true yx];rw[e2]at eV bj ⊢;generalize cp (Bw ⟨node,ak,role,st,an,base,dq,bu,false,want,comes,out⟩ s) d=z at dM eV bj ji ⊢;have hzg:z.bu=max bu s:=ji.bu;obtain⟨tD,kM,jx,Vo,Cv,tF,Cw,Cy,nQ,tG,nR,Cz⟩:=z;refine wh ?_;refine⟨[],[some 0],_,_,_,_,dM,t3,cw ?_⟩;refine sp ?_ ?_<;>intro gu
   ·refine wh ?_;refine⟨[],[some 5],_,_,_,_,eV,t3,cw ?_⟩;refine sp ?_ ?_<;>intro bw
    ·rw[if_pos (.inl ⟨gu,bw⟩)];refine wh ?_;refine⟨[],[some 0],_,_,_,_,bj,t3,cw ?_⟩;exact⟨[],[some 0],_,_,_,t3,rfl,rfl,rfl⟩
    ·rw[if_pos (.inr rfl)];refine wh ?_;refine⟨[],[some 0],_,_,_,_,bj,t3,cw ?_⟩;exact⟨[],[some 0],_,_,_,t3,rfl,rfl,rfl⟩
   ·rw[if_pos (.inr rfl)];refine wh ?_;refine⟨[],[some 0],_,_,_,_,bj,t3,cw ?_⟩;exact⟨[],[some 0],_,_,_,t3,rfl,rfl,rfl⟩
  ·have e2:GF ⟨node,ak,role,st,an,base,dq,bu,false,want,comes,out⟩ s d=Bw ⟨node,ak,role,st,an,base,dq,bu,false,want,comes,out⟩ s:=if_neg yx;rw[decide_eq_false yx];rw[e2]at eV bj ⊢;refine wh ?_;refine sp ?_ ?_<;>intro gu
   ·refine wh ?_;refine⟨[],[some 2],_,_,_,_,eV,t3,cw ?_⟩;refine sp ?_ ?_<;>intro bw
    ·rw[if_pos (.inl ⟨gu,bw⟩)];refine wh ?_;refine⟨[],[some 0],_,_,_,_,bj,t3,cw ?_⟩;exact⟨[],[some 0],_,_,_,t3,rfl,rfl,rfl⟩
    ·rw[if_pos (.inr rfl)];refine wh ?_;refine⟨[],[some 0],_,_,_,_,bj,t3,cw ?_⟩;exact⟨[],[some 0],_,_,_,t3,rfl,rfl,rfl⟩
   ·rw[if_pos (.inr rfl)];refine wh ?_;refine⟨[],[some 0],_,_,_,_,bj,t3,cw ?_⟩;exact⟨[],[some 0],_,_,_,t3,rfl,rfl,rfl⟩
 ·refine en L0 Tryz.f30 ?_;rw[show(if(kL f t ch e n s d sl).seq>(⟨node,ak,role,st,an,base,dq,bu,true,want,comes,out⟩:RS).bu then(kL f t ch e n s d sl).seq else(⟨node,ak,role,st,an,base,dq,bu,true,want,comes,out⟩:RS).bu)=max bu s from zK];refine⟨[],[some 2],_,_,_,_,v8,t3,cw ?_⟩;refine⟨[],[],_,_,_,_,xu,t3,cw ?_⟩;by_cases yx:role.succ∈ak.nodes
  ·have e2:GF ⟨node,ak,role,st,an,base,dq,bu,true,want,comes,out⟩ s d=cp (Bw ⟨node,ak,role,st,an,base,dq,bu,true,want,comes,out⟩ s) d:=if_pos yx;rw[decide_eq_true yx];rw[e2]at eV bj ⊢;generalize cp (Bw ⟨node,ak,role,st,an,base,dq,bu,true,want,comes,out⟩ s) d=z at dM eV bj ji ⊢;have hzg:z.bu=max bu s:=ji.bu;obtain⟨tD,kM,jx,Vo,Cv,tF,Cw,Cy,nQ,tG,nR,Cz⟩:=z;refine wh ?_;refine⟨[],[some 0],_,_,_,_,dM,t3,cw ?_⟩;refine sp ?_ ?_<;>intro gu
   ·refine wh ?_;refine⟨[],[some 5],_,_,_,_,eV,t3,cw ?_⟩;refine sp ?_ ?_<;>intro bw
    ·rw[if_pos (.inl ⟨gu,bw⟩)];refine wh ?_;refine⟨[],[some 0],_,_,_,_,bj,t3,cw ?_⟩;exact⟨[],[some 0],_,_,_,t3,rfl,rfl,rfl⟩
    ·rw[if_neg (fun q=>by rcases q with q|q;exact(fun q=>bw q.2) q;exact Bool.noConfusion q)];refine wh ?_;exact⟨[],[some 0],_,_,_,t3,rfl,rfl,rfl⟩
   ·rw[if_neg (fun q=>by rcases q with q|q;exact(fun q=>gu q.1) q;exact Bool.noConfusion q)];refine wh ?_;exact⟨[],[some 0],_,_,_,t3,rfl,rfl,rfl⟩
  ·have e2:GF ⟨node,ak,role,st,an,base,dq,bu,true,want,comes,out⟩ s d=Bw ⟨node,ak,role,st,an,base,dq,bu,true,want,comes,out⟩ s:=if_neg yx;rw[decide_eq_false yx];rw[e2]at eV bj ⊢;refine wh ?_;refine sp ?_ ?_<;>intro gu
   ·refine wh ?_;refine⟨[],[some 2],_,_,_,_,eV,t3,cw ?_⟩;refine sp ?_ ?_<;>intro bw
    ·rw[if_pos (.inl ⟨gu,bw⟩)];refine wh ?_;refine⟨[],[some 0],_,_,_,_,bj,t3,cw ?_⟩;exact⟨[],[some 0],_,_,_,t3,rfl,rfl,rfl⟩
    ·rw[if_neg (fun q=>by rcases q with q|q;exact(fun q=>bw q.2) q;exact Bool.noConfusion q)];refine wh ?_;exact⟨[],[some 0],_,_,_,t3,rfl,rfl,rfl⟩
   ·rw[if_neg (fun q=>by rcases q with q|q;exact(fun q=>gu q.1) q;exact Bool.noConfusion q)];refine wh ?_;exact⟨[],[some 0],_,_,_,t3,rfl,rfl,rfl⟩
theorem Zd {w:gV} {g m:Int} (h:fm w g 0=none):fm w g m=none:=by
 unfold fm at h ⊢;split at h
 ·rename_i q;rw[if_pos q]
 ·cases h
theorem XH (x:RS) (f t ch e n s d sl:Int) (hn:x.ak.nodes.length<1000000) (H:nN x.an) (hl:x.out.length<100000) (hh:fm x.an (max x.bu s) 0=none) (yx:x.role.succ∉x.ak.nodes) (hs:x.role.succ≠0) (HP:yp x.st) (hb:0<(oL x.st).length∧(oL x.st).length≤1024):
 VC E0 30 1 [.ptr 0 0,.agg (bp (kL f t ch e n s d sl))] (iz x) (RR (.cB []) 1 (yu (au x.an) (oL x.st) (mw {Bw x s with want:=0} (mW (au x.an) (oL x.st)) x.role.succ))):=by
 have v8:=zt x.an H (max x.bu s) 0 hh;have xu:=fQ x.ak.nodes x.role.succ hn;have eV:=bX x.an H;have bj:=T6 (Bw x s) hl H hs rfl (Zd hh) HP hb;have zK:(if s>x.bu then s else x.bu)=max x.bu s:=by split<;>omega
 obtain⟨node,ak,role,st,an,base,dq,bu,known,want,comes,out⟩:=x;rw[decide_eq_false yx]at xu;cases known
 ·refine en L0 Tryz.f30 ?_;rw[show(if(kL f t ch e n s d sl).seq>(⟨node,ak,role,st,an,base,dq,bu,false,want,comes,out⟩:RS).bu then(kL f t ch e n s d sl).seq else(⟨node,ak,role,st,an,base,dq,bu,false,want,comes,out⟩:RS).bu)=max bu s from zK];refine⟨[],[some 2],_,_,_,_,v8,t3,cw ?_⟩;refine⟨[],[],_,_,_,_,xu,t3,cw ?_⟩;refine sp ?_ ?_<;>intro gu
  ·refine wh ?_;refine⟨[],[some 2],_,_,_,_,eV,t3,cw ?_⟩;refine sp ?_ ?_<;>intro bw
   ·refine wh ?_;refine⟨[],[some 0],_,_,_,_,bj,t3,cw ?_⟩;exact⟨[],[some 0],_,_,_,t3,rfl,rfl,rfl⟩
   ·refine wh ?_;refine⟨[],[some 0],_,_,_,_,bj,t3,cw ?_⟩;exact⟨[],[some 0],_,_,_,t3,rfl,rfl,rfl⟩
  ·refine wh ?_;refine⟨[],[some 0],_,_,_,_,bj,t3,cw ?_⟩;exact⟨[],[some 0],_,_,_,t3,rfl,rfl,rfl⟩
 ·refine en L0 Tryz.f30 ?_;rw[show(if(kL f t ch e n s d sl).seq>(⟨node,ak,role,st,an,base,dq,bu,true,want,comes,out⟩:RS).bu then(kL f t ch e n s d sl).seq else(⟨node,ak,role,st,an,base,dq,bu,true,want,comes,out⟩:RS).bu)=max bu s from zK];refine⟨[],[some 2],_,_,_,_,v8,t3,cw ?_⟩;refine⟨[],[],_,_,_,_,xu,t3,cw ?_⟩;refine sp ?_ ?_<;>intro gu
  ·refine wh ?_;refine⟨[],[some 2],_,_,_,_,eV,t3,cw ?_⟩;refine sp ?_ ?_<;>intro bw
   ·refine wh ?_;refine⟨[],[some 0],_,_,_,_,bj,t3,cw ?_⟩;exact⟨[],[some 0],_,_,_,t3,rfl,rfl,rfl⟩
   ·refine wh ?_;refine⟨[],[some 0],_,_,_,_,bj,t3,cw ?_⟩;exact⟨[],[some 0],_,_,_,t3,rfl,rfl,rfl⟩
  ·refine wh ?_;refine⟨[],[some 0],_,_,_,_,bj,t3,cw ?_⟩;exact⟨[],[some 0],_,_,_,t3,rfl,rfl,rfl⟩
theorem XI (a:Int) (b:List Int) (x:RS) (f t ch e s d:Int) (hn:x.ak.nodes.length<1000000) (H:nN x.an) (l:List dx) (hh:fm x.an (max x.bu s) 0=some l) (yx:x.role.succ∉x.ak.nodes) (hk:x.known=true) (hq:¬(x.bu<max x.bu s∧max x.bu s<au x.an)):
 VC E0 30 1 [.ptr 0 0,.agg (bp (kL f t ch e a s d 0))] (yu a b x) (RR (.cB []) 1 (iz {Bw x s with want:=0})):=by
 have v8:=FX x.an H (max x.bu s) 0 (by decide) l hh;have xu:=fQ x.ak.nodes x.role.succ hn;have eV:=bX x.an H;have zK:(if s>x.bu then s else x.bu)=max x.bu s:=by split<;>omega
 obtain⟨node,ak,role,st,an,base,dq,bu,known,want,comes,out⟩:=x;have hk:known=true:=hk;subst hk;rw[decide_eq_false yx]at xu;refine en L0 Tryz.f30 ?_;rw[show(if(kL f t ch e a s d 0).seq>(⟨node,ak,role,st,an,base,dq,bu,true,want,comes,out⟩:RS).bu then(kL f t ch e a s d 0).seq else(⟨node,ak,role,st,an,base,dq,bu,true,want,comes,out⟩:RS).bu)=max bu s from zK];refine⟨[],[some 2],_,_,_,_,F6 a b,t3,cw ?_⟩;refine sp ?_ ?_<;>intro CM;rotate_left
 ·exact absurd rfl CM
 refine wh ?_;refine⟨[],[some 2],_,_,_,_,sN a b,t3,cw ?_⟩;refine sp ?_ ?_<;>intro h51;rotate_left
 ·exact absurd (show(0:Int)<1 by decide) h51
 refine wh ?_;refine⟨[],[some 5],_,_,_,_,v8,t3,cw ?_⟩;refine⟨[],[],_,_,_,_,xu,t3,cw ?_⟩;refine sp ?_ ?_<;>intro gu
 ·refine wh ?_;refine⟨[],[some 5],_,_,_,_,eV,t3,cw ?_⟩;refine sp ?_ ?_<;>intro bw
  ·exact absurd ⟨gu,bw⟩ hq
  ·refine wh ?_;exact⟨[],[some 0],_,_,_,t3,rfl,rfl,rfl⟩
 ·refine wh ?_;exact⟨[],[some 0],_,_,_,t3,rfl,rfl,rfl⟩
theorem XJ (a:Int) (b:List Int) (x:RS) (f t ch e n s d sl:Int) (hn:x.ak.nodes.length<1000000) (H:nN x.an) (hl:x.out.length<100000) (hh:fm x.an (max x.bu s) 0=none) (yx:x.role.succ∉x.ak.nodes) (hs:x.role.succ≠0) (hk:x.known=true) (CM:n≠a) (hw:x.want=0) (hb:b.length<1000000):
 VC E0 30 1 [.ptr 0 0,.agg (bp (kL f t ch e n s d sl))] (yu a b x) (RR (.cB []) 1 (yu a b (mw (Bw x s) (mW a b) x.role.succ))):=by
 have v8:=zt x.an H (max x.bu s) 0 hh;have xu:=fQ x.ak.nodes x.role.succ hn;have eV:=bX x.an H;have bj:=Jd a b (Bw x s) hl H hs rfl (Zd hh) hw hb;have zK:(if s>x.bu then s else x.bu)=max x.bu s:=by split<;>omega
 obtain⟨node,ak,role,st,an,base,dq,bu,known,want,comes,out⟩:=x;have hk:known=true:=hk;subst hk;rw[decide_eq_false yx]at xu;refine en L0 Tryz.f30 ?_;rw[show(if(kL f t ch e n s d sl).seq>(⟨node,ak,role,st,an,base,dq,bu,true,want,comes,out⟩:RS).bu then(kL f t ch e n s d sl).seq else(⟨node,ak,role,st,an,base,dq,bu,true,want,comes,out⟩:RS).bu)=max bu s from zK];refine⟨[],[some 2],_,_,_,_,F6 a b,t3,cw ?_⟩;refine sp ?_ ?_<;>intro hq
 ·exact absurd hq CM
 refine wh ?_;refine⟨[],[some 4],_,_,_,_,v8,t3,cw ?_⟩;refine⟨[],[],_,_,_,_,xu,t3,cw ?_⟩;refine sp ?_ ?_<;>intro gu
 ·refine wh ?_;refine⟨[],[some 4],_,_,_,_,eV,t3,cw ?_⟩;refine sp ?_ ?_<;>intro bw
  ·refine wh ?_;refine⟨[],[some 0],_,_,_,_,bj,t3,cw ?_⟩;exact⟨[],[some 0],_,_,_,t3,rfl,rfl,rfl⟩
  ·refine wh ?_;refine⟨[],[some 0],_,_,_,_,bj,t3,cw ?_⟩;exact⟨[],[some 0],_,_,_,t3,rfl,rfl,rfl⟩
 ·refine wh ?_;refine⟨[],[some 0],_,_,_,_,bj,t3,cw ?_⟩;exact⟨[],[some 0],_,_,_,t3,rfl,rfl,rfl⟩
@[reducible] def Ze (x:RS):TV→Ob→Nat→Prop:=fun r o c=>
 (x.role.succ=0∧r= .sl 0 [] true∧c=1∧o=iz x)∨(x.role.succ≠0∧r= .tk 1∧c=2∧o=[(0,ie (bE (cq x))),(1,.arr 25 true ((cq x).out.map bp))])
theorem XK (x:RS) (hn:x.ak.nodes.length<1000000) (H:nN x.an) (Y7:x.an.done≤au x.an) (G2:nP x):VC E0 17 1 [.ptr 0 0] (iz x) (Ze x):=by
 have xu:=fQ x.ak.nodes x.role.succ hn;have bW:=bX x.an H;have Y6:=DH x.an H Y7;have bj:=G2.hand;by_cases hs:x.role.succ=0
 ·refine en L0 Tryz.f17 ?_;refine sp ?_ ?_<;>intro hz
  ·refine wh ?_;exact⟨[],[some 0],_,_,_,t3,.inl ⟨hs,rfl,rfl,rfl⟩⟩
  ·exact absurd hs hz
 generalize hX:x=X at xu bW Y6 bj hs ⊢;obtain⟨node,⟨c1,c2,c3,c4,c5⟩,role,st,an,base,dq,bu,known,want,comes,out⟩:=X;clear G2 H Y7 hX;cases c4
 ·cases known
  ·refine en L0 Tryz.f17 ?_;refine sp ?_ ?_<;>intro hz
   ·exact absurd hz hs
   refine wh ?_;refine⟨[],[],_,_,_,_,xu,t3,cw ?_⟩;have et:cq ⟨node,⟨c1,c2,c3,(false),c5⟩,role,st,an,base,dq,bu,false,want,comes,out⟩=dZ ⟨node,⟨c1,c2,c3,(false),c5⟩,role,st,an,base,dq,bu,false,want,comes,out⟩:=by unfold cq;rw[if_neg hs,if_pos (.inl rfl)]
   refine wh ?_;refine⟨[],[some 0],_,_,_,_,bj,t3,cw ?_⟩;refine⟨[],[some 0],_,_,_,_,dp (dZ ⟨node,⟨c1,c2,c3,(false),c5⟩,role,st,an,base,dq,bu,false,want,comes,out⟩),t3,cw ?_⟩;exact⟨[],[some 0,some 3],_,_,_,t3,.inr ⟨hs,rfl,rfl,(congrArg (fun y=>[(0,ie (bE y)),(1,.arr 25 true (y.out.map bp))]) et).symm⟩⟩
  ·by_cases yx:role.succ∈c3
   ·rw[decide_eq_true yx]at xu;refine en L0 Tryz.f17 ?_;refine sp ?_ ?_<;>intro hz
    ·exact absurd hz hs
    refine wh ?_;refine⟨[],[],_,_,_,_,xu,t3,cw ?_⟩;refine⟨[],[some 1],_,_,_,_,bW,t3,cw ?_⟩;refine sp ?_ ?_<;>intro bw
    ·have et:cq ⟨node,⟨c1,c2,c3,(false),c5⟩,role,st,an,base,dq,bu,true,want,comes,out⟩=dZ ⟨node,⟨c1,c2,c3,(false),c5⟩,role,st,an,base,dq,bu,true,want,comes,out⟩:=by unfold cq;rw[if_neg hs,if_pos (.inr (.inl bw))]
     refine wh ?_;refine⟨[],[some 0],_,_,_,_,bj,t3,cw ?_⟩;refine⟨[],[some 0],_,_,_,_,dp (dZ ⟨node,⟨c1,c2,c3,(false),c5⟩,role,st,an,base,dq,bu,true,want,comes,out⟩),t3,cw ?_⟩;exact⟨[],[some 0,some 5],_,_,_,t3,.inr ⟨hs,rfl,rfl,(congrArg (fun y=>[(0,ie (bE y)),(1,.arr 25 true (y.out.map bp))]) et).symm⟩⟩
    ·refine wh ?_;refine⟨[],[some 1],_,_,_,_,Y6,t3,cw ?_⟩;refine sp ?_ ?_<;>intro hd
     ·have et:cq ⟨node,⟨c1,c2,c3,(false),c5⟩,role,st,an,base,dq,bu,true,want,comes,out⟩=dZ ⟨node,⟨c1,c2,c3,(false),c5⟩,role,st,an,base,dq,bu,true,want,comes,out⟩:=by unfold cq;rw[if_neg hs,if_pos (.inr (.inr ⟨yx,.inl hd⟩))]
      refine wh ?_;refine⟨[],[some 0],_,_,_,_,bj,t3,cw ?_⟩;refine⟨[],[some 0],_,_,_,_,dp (dZ ⟨node,⟨c1,c2,c3,(false),c5⟩,role,st,an,base,dq,bu,true,want,comes,out⟩),t3,cw ?_⟩;exact⟨[],[some 0,some 6],_,_,_,t3,.inr ⟨hs,rfl,rfl,(congrArg (fun y=>[(0,ie (bE y)),(1,.arr 25 true (y.out.map bp))]) et).symm⟩⟩
     ·have et:cq ⟨node,⟨c1,c2,c3,false,c5⟩,role,st,an,base,dq,bu,true,want,comes,out⟩=⟨node,⟨c1,c2,c3,false,c5⟩,role,st,an,base,dq,bu,true,want,comes,out⟩:=by unfold cq;rw[if_neg hs,if_neg (fun q=>by rcases q with q|q|⟨q0,q|q⟩;cases q;exact bw q;exact hd q;cases q)]
      refine wh ?_;refine⟨[],[some 0],_,_,_,_,dp ⟨node,⟨c1,c2,c3,false,c5⟩,role,st,an,base,dq,bu,true,want,comes,out⟩,t3,cw ?_⟩;exact⟨[],[some 0,some 5],_,_,_,t3,.inr ⟨hs,rfl,rfl,(congrArg (fun y=>[(0,ie (bE y)),(1,.arr 25 true (y.out.map bp))]) et).symm⟩⟩
   ·rw[decide_eq_false yx]at xu;refine en L0 Tryz.f17 ?_;refine sp ?_ ?_<;>intro hz
    ·exact absurd hz hs
    refine wh ?_;refine⟨[],[],_,_,_,_,xu,t3,cw ?_⟩;refine⟨[],[some 1],_,_,_,_,bW,t3,cw ?_⟩;refine sp ?_ ?_<;>intro bw
    ·have et:cq ⟨node,⟨c1,c2,c3,(false),c5⟩,role,st,an,base,dq,bu,true,want,comes,out⟩=dZ ⟨node,⟨c1,c2,c3,(false),c5⟩,role,st,an,base,dq,bu,true,want,comes,out⟩:=by unfold cq;rw[if_neg hs,if_pos (.inr (.inl bw))]
     refine wh ?_;refine⟨[],[some 0],_,_,_,_,bj,t3,cw ?_⟩;refine⟨[],[some 0],_,_,_,_,dp (dZ ⟨node,⟨c1,c2,c3,(false),c5⟩,role,st,an,base,dq,bu,true,want,comes,out⟩),t3,cw ?_⟩;exact⟨[],[some 0,some 5],_,_,_,t3,.inr ⟨hs,rfl,rfl,(congrArg (fun y=>[(0,ie (bE y)),(1,.arr 25 true (y.out.map bp))]) et).symm⟩⟩
    ·have et:cq ⟨node,⟨c1,c2,c3,(false),c5⟩,role,st,an,base,dq,bu,true,want,comes,out⟩=⟨node,⟨c1,c2,c3,(false),c5⟩,role,st,an,base,dq,bu,true,want,comes,out⟩:=by unfold cq;rw[if_neg hs,if_neg (fun q=>by rcases q with q|q|q;cases q;exact bw q;exact yx q.1)]
     refine wh ?_;refine⟨[],[some 0],_,_,_,_,dp ⟨node,⟨c1,c2,c3,(false),c5⟩,role,st,an,base,dq,bu,true,want,comes,out⟩,t3,cw ?_⟩;exact⟨[],[some 0,some 4],_,_,_,t3,.inr ⟨hs,rfl,rfl,(congrArg (fun y=>[(0,ie (bE y)),(1,.arr 25 true (y.out.map bp))]) et).symm⟩⟩
 ·cases known
  ·refine en L0 Tryz.f17 ?_;refine sp ?_ ?_<;>intro hz
   ·exact absurd hz hs
   refine wh ?_;refine⟨[],[],_,_,_,_,xu,t3,cw ?_⟩;have et:cq ⟨node,⟨c1,c2,c3,(true),c5⟩,role,st,an,base,dq,bu,false,want,comes,out⟩=dZ ⟨node,⟨c1,c2,c3,(true),c5⟩,role,st,an,base,dq,bu,false,want,comes,out⟩:=by unfold cq;rw[if_neg hs,if_pos (.inl rfl)]
   refine wh ?_;refine⟨[],[some 0],_,_,_,_,bj,t3,cw ?_⟩;refine⟨[],[some 0],_,_,_,_,dp (dZ ⟨node,⟨c1,c2,c3,(true),c5⟩,role,st,an,base,dq,bu,false,want,comes,out⟩),t3,cw ?_⟩;exact⟨[],[some 0,some 3],_,_,_,t3,.inr ⟨hs,rfl,rfl,(congrArg (fun y=>[(0,ie (bE y)),(1,.arr 25 true (y.out.map bp))]) et).symm⟩⟩
  ·by_cases yx:role.succ∈c3
   ·rw[decide_eq_true yx]at xu;refine en L0 Tryz.f17 ?_;refine sp ?_ ?_<;>intro hz
    ·exact absurd hz hs
    refine wh ?_;refine⟨[],[],_,_,_,_,xu,t3,cw ?_⟩;refine⟨[],[some 1],_,_,_,_,bW,t3,cw ?_⟩;refine sp ?_ ?_<;>intro bw
    ·have et:cq ⟨node,⟨c1,c2,c3,(true),c5⟩,role,st,an,base,dq,bu,true,want,comes,out⟩=dZ ⟨node,⟨c1,c2,c3,(true),c5⟩,role,st,an,base,dq,bu,true,want,comes,out⟩:=by unfold cq;rw[if_neg hs,if_pos (.inr (.inl bw))]
     refine wh ?_;refine⟨[],[some 0],_,_,_,_,bj,t3,cw ?_⟩;refine⟨[],[some 0],_,_,_,_,dp (dZ ⟨node,⟨c1,c2,c3,(true),c5⟩,role,st,an,base,dq,bu,true,want,comes,out⟩),t3,cw ?_⟩;exact⟨[],[some 0,some 5],_,_,_,t3,.inr ⟨hs,rfl,rfl,(congrArg (fun y=>[(0,ie (bE y)),(1,.arr 25 true (y.out.map bp))]) et).symm⟩⟩
    ·refine wh ?_;refine⟨[],[some 1],_,_,_,_,Y6,t3,cw ?_⟩;refine sp ?_ ?_<;>intro hd
     ·have et:cq ⟨node,⟨c1,c2,c3,(true),c5⟩,role,st,an,base,dq,bu,true,want,comes,out⟩=dZ ⟨node,⟨c1,c2,c3,(true),c5⟩,role,st,an,base,dq,bu,true,want,comes,out⟩:=by unfold cq;rw[if_neg hs,if_pos (.inr (.inr ⟨yx,.inl hd⟩))]
      refine wh ?_;refine⟨[],[some 0],_,_,_,_,bj,t3,cw ?_⟩;refine⟨[],[some 0],_,_,_,_,dp (dZ ⟨node,⟨c1,c2,c3,(true),c5⟩,role,st,an,base,dq,bu,true,want,comes,out⟩),t3,cw ?_⟩;exact⟨[],[some 0,some 6],_,_,_,t3,.inr ⟨hs,rfl,rfl,(congrArg (fun y=>[(0,ie (bE y)),(1,.arr 25 true (y.out.map bp))]) et).symm⟩⟩
     ·have et:cq ⟨node,⟨c1,c2,c3,true,c5⟩,role,st,an,base,dq,bu,true,want,comes,out⟩=dZ ⟨node,⟨c1,c2,c3,true,c5⟩,role,st,an,base,dq,bu,true,want,comes,out⟩:=by unfold cq;rw[if_neg hs,if_pos (.inr (.inr ⟨yx,.inr rfl⟩))]
      refine wh ?_;refine⟨[],[some 0],_,_,_,_,bj,t3,cw ?_⟩;refine⟨[],[some 0],_,_,_,_,dp (dZ ⟨node,⟨c1,c2,c3,true,c5⟩,role,st,an,base,dq,bu,true,want,comes,out⟩),t3,cw ?_⟩;exact⟨[],[some 0,some 6],_,_,_,t3,.inr ⟨hs,rfl,rfl,(congrArg (fun y=>[(0,ie (bE y)),(1,.arr 25 true (y.out.map bp))]) et).symm⟩⟩
   ·rw[decide_eq_false yx]at xu;refine en L0 Tryz.f17 ?_;refine sp ?_ ?_<;>intro hz
    ·exact absurd hz hs
    refine wh ?_;refine⟨[],[],_,_,_,_,xu,t3,cw ?_⟩;refine⟨[],[some 1],_,_,_,_,bW,t3,cw ?_⟩;refine sp ?_ ?_<;>intro bw
    ·have et:cq ⟨node,⟨c1,c2,c3,(true),c5⟩,role,st,an,base,dq,bu,true,want,comes,out⟩=dZ ⟨node,⟨c1,c2,c3,(true),c5⟩,role,st,an,base,dq,bu,true,want,comes,out⟩:=by unfold cq;rw[if_neg hs,if_pos (.inr (.inl bw))]
     refine wh ?_;refine⟨[],[some 0],_,_,_,_,bj,t3,cw ?_⟩;refine⟨[],[some 0],_,_,_,_,dp (dZ ⟨node,⟨c1,c2,c3,(true),c5⟩,role,st,an,base,dq,bu,true,want,comes,out⟩),t3,cw ?_⟩;exact⟨[],[some 0,some 5],_,_,_,t3,.inr ⟨hs,rfl,rfl,(congrArg (fun y=>[(0,ie (bE y)),(1,.arr 25 true (y.out.map bp))]) et).symm⟩⟩
    ·have et:cq ⟨node,⟨c1,c2,c3,(true),c5⟩,role,st,an,base,dq,bu,true,want,comes,out⟩=⟨node,⟨c1,c2,c3,(true),c5⟩,role,st,an,base,dq,bu,true,want,comes,out⟩:=by unfold cq;rw[if_neg hs,if_neg (fun q=>by rcases q with q|q|q;cases q;exact bw q;exact yx q.1)]
     refine wh ?_;refine⟨[],[some 0],_,_,_,_,dp ⟨node,⟨c1,c2,c3,(true),c5⟩,role,st,an,base,dq,bu,true,want,comes,out⟩,t3,cw ?_⟩;exact⟨[],[some 0,some 4],_,_,_,t3,.inr ⟨hs,rfl,rfl,(congrArg (fun y=>[(0,ie (bE y)),(1,.arr 25 true (y.out.map bp))]) et).symm⟩⟩
theorem Uh (a:Int) (b:List Int) (x:RS) (hn:x.ak.nodes.length<1000000) (H:nN x.an) (hl:x.out.length<100000) (hs:x.role.succ≠0) (hk:x.known=true) (bw:x.bu<au x.an) (hf:fm x.an x.bu 4=none) (hw:x.want=0) (hb:b.length<1000000):
 VC E0 17 1 [.ptr 0 0] (yu a b x) (RR (.tk 1) 2 [(0,Cp a b (bE (mw x (mW a b) x.role.succ))),(1,.arr 25 true ((mw x (mW a b) x.role.succ).out.map bp))]):=by
 have xu:=fQ x.ak.nodes x.role.succ hn;have bW:=bX x.an H;have bj:=Jd a b x hl H hs hk hf hw hb;have afR:=sM a b (mw x (mW a b) x.role.succ);generalize decide (x.role.succ∈x.ak.nodes)=q at xu;obtain⟨node,⟨c1,c2,c3,c4,c5⟩,role,st,an,base,dq,bu,known,want,comes,out⟩:=x;have hk:known=true:=hk;subst hk;cases q
 all_goals
  refine en L0 Tryz.f17 ?_;refine sp ?_ ?_<;>intro hz
  ·exact absurd hz hs
  refine wh ?_;refine⟨[],[],_,_,_,_,xu,t3,cw ?_⟩;refine⟨[],[some 1],_,_,_,_,bW,t3,cw ?_⟩;refine sp ?_ ?_<;>intro hq;rotate_left
  ·exact absurd bw hq
  refine wh ?_;refine⟨[],[some 0],_,_,_,_,bj,t3,cw ?_⟩;refine⟨[],[some 0],_,_,_,_,afR,t3,cw ?_⟩;exact⟨[],[some 0,some 5],_,_,_,t3,rfl,rfl,rfl⟩
theorem sO (k:Int) (h:k=12∨k=13∨k=17∨k=14):VC E0 56 0 [.s (.int .i64 k)] [] (RR (.s (.bool true)) 0 []):=by
 rcases h with rfl |rfl |rfl |rfl
 all_goals
  refine en L0 Tryz.f56 ?_;refine rn ?_;exact⟨[],[],_,_,_,t3,rfl,rfl,rfl⟩
theorem abu (c:CF) (H:bV c) (node:Int) (f t ch e s d:Int) (us:List dx) (h:(bh c node).pred≠0∧f=(bh c node).pred):VC E0 57 0 [.agg (dm c),.s (.int .i64 node),.agg (bp (uP f t ch e s d us))] [] (RR (.s (.bool true)) 0 []):=by
 have hr:=jV c H node;generalize bh c node=r at h hr;obtain⟨ri,rj,rh,rt,T8,XC,XD,XE⟩:=r;refine en L0 Tryz.f57 ?_;refine⟨[],[],_,_,_,_,hr,t3,cw ?_⟩;refine rn ?_;refine sp ?_ ?_<;>intro h1
 ·refine wh ?_;refine sp ?_ ?_<;>intro h2
  ·refine wh ?_;exact⟨[],[],_,_,_,t3,rfl,rfl,rfl⟩
  ·exact absurd h.2 h2
 ·exact absurd h.1 h1
theorem abv (c:CF) (H:bV c) (node:Int) (f t ch e n s sl:Int) (d:List Int) (h:(bh c node).pred≠0∧f=(bh c node).pred):VC E0 57 0 [.agg (dm c),.s (.int .i64 node),.agg (bp (uB f t ch e n s sl d))] [] (RR (.s (.bool true)) 0 []):=by
 have hr:=jV c H node;generalize bh c node=r at h hr;obtain⟨ri,rj,rh,rt,T8,XC,XD,XE⟩:=r;refine en L0 Tryz.f57 ?_;refine⟨[],[],_,_,_,_,hr,t3,cw ?_⟩;refine rn ?_;refine sp ?_ ?_<;>intro h1
 ·refine wh ?_;refine sp ?_ ?_<;>intro h2
  ·refine wh ?_;exact⟨[],[],_,_,_,t3,rfl,rfl,rfl⟩
  ·exact absurd h.2 h2
 ·exact absurd h.1 h1
theorem abw (c:CF) (H:bV c) (node:Int) (f t ch e n s d sl:Int) (h:(bh c node).succ≠0∧f=(bh c node).succ):VC E0 57 0 [.agg (dm c),.s (.int .i64 node),.agg (bp (kL f t ch e n s d sl))] [] (RR (.s (.bool true)) 0 []):=by
 have hr:=jV c H node;generalize bh c node=r at h hr;obtain⟨ri,rj,rh,rt,T8,XC,XD,XE⟩:=r;refine en L0 Tryz.f57 ?_;refine⟨[],[],_,_,_,_,hr,t3,cw ?_⟩;refine rn ?_;refine sp ?_ ?_<;>intro h1
 ·refine wh ?_;refine sp ?_ ?_<;>intro h2
  ·refine wh ?_;exact⟨[],[],_,_,_,t3,rfl,rfl,rfl⟩
  ·exact absurd h.2 h2
 ·exact absurd h.1 h1
theorem abx (c:CF) (H:bV c) (node:Int) (f t ch e:Int) (us:List dx) (h:(bh c node).head=true) (hf:201≤f∧f≤206):VC E0 57 0 [.agg (dm c),.s (.int .i64 node),.agg (bp (GA f t ch e us))] [] (RR (.s (.bool true)) 0 []):=by
 have hc:=DE f;rw[decide_eq_true hf]at hc;have hr:=jV c H node;generalize bh c node=r at h hr;obtain⟨ri,rj,rh,rt,T8,XC,XD,XE⟩:=r;refine en L0 Tryz.f57 ?_;refine⟨[],[],_,_,_,_,hr,t3,cw ?_⟩;refine rn ?_;have h:rh=true:=h;subst h;refine wh ?_;refine⟨[],[],_,_,_,_,hc,t3,cw ?_⟩;exact⟨[],[],_,_,_,t3,rfl,rfl,rfl⟩
theorem Nr (c:CF) (H:bV c) (node f s d:Int) (us:List dx) (hf:sw f) (hn:sw node) (hl:us.length≤4) (hu:us.all (okW false)=true) (h:(bh c node).pred≠0∧f=(bh c node).pred):
 VC E0 25 0 [.agg (dm c),.s (.int .i64 node),.agg (bp (uP f node c.chain c.aV s d us))] [] (RR (.s (.int .i64 0)) 0 []):=by
 have yK:=DF f node c.chain c.aV s d us hf hn H.1 H.2.1 hl;rw[if_pos hu]at yK;have hs:=abu c H node f node c.chain c.aV s d us h;refine en L0 Tryz.f25 ?_;refine⟨[],[],_,_,_,_,yK,t3,cw ?_⟩
 repeat((first|(refine⟨fun h_=>?_,fun h_=>?_⟩)|(refine aU (fun h_=>?_) (fun h_=>?_))|(refine aT (fun h_=>?_) (fun h_=>?_)))<;>first|(exfalso;revert h_;decide;done)|(exact absurd rfl h_)|(have dw:=True.intro;clear dw;(conv=>whnf)))
 refine⟨[],[],_,_,_,_,uC c H,t3,cw ?_⟩;refine⟨[],[],_,_,_,_,sO 12 (.inl rfl),t3,cw ?_⟩
 repeat((first|(refine⟨fun h_=>?_,fun h_=>?_⟩)|(refine aU (fun h_=>?_) (fun h_=>?_))|(refine aT (fun h_=>?_) (fun h_=>?_)))<;>first|(exfalso;revert h_;decide;done)|(exact absurd rfl h_)|(have dw:=True.intro;clear dw;(conv=>whnf)))
 refine⟨[],[],_,_,_,_,hs,t3,cw ?_⟩;exact⟨[],[],_,_,_,t3,rfl,rfl,rfl⟩
theorem zz (c:CF) (H:bV c) (node f n s d sl:Int) (hf:sw f) (hn:sw node) (yM:0≤sl∧sl≤512) (h:(bh c node).succ≠0∧f=(bh c node).succ):
 VC E0 25 0 [.agg (dm c),.s (.int .i64 node),.agg (bp (kL f node c.chain c.aV n s d sl))] [] (RR (.s (.int .i64 0)) 0 []):=by
 have yK:=Tk f node c.chain c.aV n s d sl hf hn H.1 H.2.1 yM;have hs:=abw c H node f node c.chain c.aV n s d sl h;refine en L0 Tryz.f25 ?_;refine⟨[],[],_,_,_,_,yK,t3,cw ?_⟩
 repeat((first|(refine⟨fun h_=>?_,fun h_=>?_⟩)|(refine aU (fun h_=>?_) (fun h_=>?_))|(refine aT (fun h_=>?_) (fun h_=>?_)))<;>first|(exfalso;revert h_;decide;done)|(exact absurd rfl h_)|(have dw:=True.intro;clear dw;(conv=>whnf)))
 refine⟨[],[],_,_,_,_,uC c H,t3,cw ?_⟩;refine⟨[],[],_,_,_,_,sO 13 (.inr (.inl rfl)),t3,cw ?_⟩
 repeat((first|(refine⟨fun h_=>?_,fun h_=>?_⟩)|(refine aU (fun h_=>?_) (fun h_=>?_))|(refine aT (fun h_=>?_) (fun h_=>?_)))<;>first|(exfalso;revert h_;decide;done)|(exact absurd rfl h_)|(have dw:=True.intro;clear dw;(conv=>whnf)))
 refine⟨[],[],_,_,_,_,hs,t3,cw ?_⟩;exact⟨[],[],_,_,_,t3,rfl,rfl,rfl⟩
theorem XL (c:CF) (H:bV c) (node f:Int) (u:dx) (hf:201≤f∧f≤206) (hn:sw node) (hu:okW true u=true) (h:(bh c node).head=true):
 VC E0 25 0 [.agg (dm c),.s (.int .i64 node),.agg (bp (GA f node c.chain c.aV [u]))] [] (RR (.s (.int .i64 0)) 0 []):=by
 have yK:=Lf f node c.chain c.aV u (.inr hf) hn H.1 H.2.1 hu;have hs:=abx c H node f node c.chain c.aV [u] h hf;refine en L0 Tryz.f25 ?_;refine⟨[],[],_,_,_,_,yK,t3,cw ?_⟩
 repeat((first|(refine⟨fun h_=>?_,fun h_=>?_⟩)|(refine aU (fun h_=>?_) (fun h_=>?_))|(refine aT (fun h_=>?_) (fun h_=>?_)))<;>first|(exfalso;revert h_;decide;done)|(exact absurd rfl h_)|(have dw:=True.intro;clear dw;(conv=>whnf)))
 refine⟨[],[],_,_,_,_,uC c H,t3,cw ?_⟩;refine⟨[],[],_,_,_,_,sO 17 (.inr (.inr (.inl rfl))),t3,cw ?_⟩
 repeat((first|(refine⟨fun h_=>?_,fun h_=>?_⟩)|(refine aU (fun h_=>?_) (fun h_=>?_))|(refine aT (fun h_=>?_) (fun h_=>?_)))<;>first|(exfalso;revert h_;decide;done)|(exact absurd rfl h_)|(have dw:=True.intro;clear dw;(conv=>whnf)))
 refine⟨[],[],_,_,_,_,hs,t3,cw ?_⟩;exact⟨[],[],_,_,_,t3,rfl,rfl,rfl⟩
theorem XM (c:CF) (H:bV c) (node f n s sl:Int) (d:List Int) (hf:sw f) (hn:sw node) (yM:0≤sl∧sl≤512) (hd:d.length≤1024) (h:(bh c node).pred≠0∧f=(bh c node).pred):
 VC E0 25 0 [.agg (dm c),.s (.int .i64 node),.agg (bp (uB f node c.chain c.aV n s sl d))] [] (RR (.s (.int .i64 0)) 0 []):=by
 have yK:=Pf f node c.chain c.aV n s sl d hf hn H.1 H.2.1 yM hd;have hs:=abv c H node f node c.chain c.aV n s sl d h;refine en L0 Tryz.f25 ?_;refine⟨[],[],_,_,_,_,yK,t3,cw ?_⟩
 repeat((first|(refine⟨fun h_=>?_,fun h_=>?_⟩)|(refine aU (fun h_=>?_) (fun h_=>?_))|(refine aT (fun h_=>?_) (fun h_=>?_)))<;>first|(exfalso;revert h_;decide;done)|(exact absurd rfl h_)|(have dw:=True.intro;clear dw;(conv=>whnf)))
 refine⟨[],[],_,_,_,_,uC c H,t3,cw ?_⟩;refine⟨[],[],_,_,_,_,sO 14 (.inr (.inr (.inr rfl))),t3,cw ?_⟩
 repeat((first|(refine⟨fun h_=>?_,fun h_=>?_⟩)|(refine aU (fun h_=>?_) (fun h_=>?_))|(refine aT (fun h_=>?_) (fun h_=>?_)))<;>first|(exfalso;revert h_;decide;done)|(exact absurd rfl h_)|(have dw:=True.intro;clear dw;(conv=>whnf)))
 refine⟨[],[],_,_,_,_,hs,t3,cw ?_⟩;exact⟨[],[],_,_,_,t3,rfl,rfl,rfl⟩
@[reducible] def DX (y:RS):TV→Ob→Nat→Prop:=RR (.tk 1) 2 [(0,ie (bE y)),(1,.arr 25 true (y.out.map bp))]
@[reducible] def Uj (a:Int) (b:List Int) (y:RS):TV→Ob→Nat→Prop:=RR (.tk 1) 2 [(0,Cp a b (bE y)),(1,.arr 25 true (y.out.map bp))]
theorem PT (x:RS) (f s d:Int) (us:List dx) (H:bV x.ak) (hf:sw f) (hn:sw x.node) (hu:us.all (okW false)=true) (h:(bh x.ak x.node).pred≠0∧f=(bh x.ak x.node).pred)
 (G:gX x) (htj:x.role.tail=true→x.role.jm=false) (hl:us.length≤4) (hd:∀u∈us,u.data.length≤2048∧Qv u)
 (zq:∀(i:Nat) (h:i<(dX us (au x.an)).length),gX (((dX us (au x.an)).take i).foldl Bn x)∧Jh (((dX us (au x.an)).take i).foldl Bn x) (dX us (au x.an))[i])
 (G1:gX (g6 x us)) (G2:nP (jo (LC x d us))) (G3:gX (zX x us)):
 VC E0 8 1 [.ptr 0 0,.agg (bp (uP f x.node x.ak.chain x.ak.aV s d us))] (iz x) (DX (tB x d us)):=by
 have LG:=Nr x.ak H x.node f s d us hf hn hl hu h;have GD:=PL x f x.node x.ak.chain x.ak.aV s d us G htj hl hd zq G1 G2 G3;refine en L0 Tryz.f8 ?_;refine⟨[],[],_,_,_,_,LG,t3,cw ?_⟩
 ((first|(refine⟨fun h_=>?_,fun h_=>?_⟩)|(refine aU (fun h_=>?_) (fun h_=>?_))|(refine aT (fun h_=>?_) (fun h_=>?_)))<;>first|(exfalso;revert h_;decide;done)|(exact absurd rfl h_)|(have dw:=True.intro;clear dw;((conv=>whnf)<;>repeat(with_reducible refine D1 ?_)<;>conv=>whnf)))
 refine sp ?_ ?_<;>intro LH
 ·exact absurd (show(12:Int)=17 from LH) (by decide)
 refine wh ?_;refine sp ?_ ?_<;>intro PU
 ·refine wh ?_;refine⟨[],[some 0],_,_,_,_,GD,t3,cw ?_⟩;refine⟨[],[some 0],_,_,_,_,dp (tB x d us),t3,cw ?_⟩;exact⟨[],[some 0,some 4],_,_,_,t3,rfl,rfl,rfl⟩
 ·exact absurd rfl PU
theorem PV (x:RS) (f n s d sl:Int) (H:bV x.ak) (hf:sw f) (hn:sw x.node) (yM:0≤sl∧sl≤512) (h:(bh x.ak x.node).succ≠0∧f=(bh x.ak x.node).succ)
 (Hw:nN x.an) (G1:gX (Bw x s)) (hh:(fm x.an (max x.bu s) 0).isSome=true) (hd:0≤d∧d≤1000000) (G2:nP (GF x s d)):
 VC E0 8 1 [.ptr 0 0,.agg (bp (kL f x.node x.ak.chain x.ak.aV n s d sl))] (iz x) (DX (xe x s d)):=by
 have LG:=zz x.ak H x.node f n s d sl hf hn yM h;have GD:=Ug x f x.node x.ak.chain x.ak.aV n s d sl (by have:=H.2.2.1;omega) Hw G1 hh hd G2;refine en L0 Tryz.f8 ?_;refine⟨[],[],_,_,_,_,LG,t3,cw ?_⟩
 ((first|(refine⟨fun h_=>?_,fun h_=>?_⟩)|(refine aU (fun h_=>?_) (fun h_=>?_))|(refine aT (fun h_=>?_) (fun h_=>?_)))<;>first|(exfalso;revert h_;decide;done)|(exact absurd rfl h_)|(have dw:=True.intro;clear dw;((conv=>whnf)<;>repeat(with_reducible refine D1 ?_)<;>conv=>whnf)))
 refine sp ?_ ?_<;>intro LH
 ·exact absurd (show(13:Int)=17 from LH) (by decide)
 refine wh ?_;refine sp ?_ ?_<;>intro PU
 ·exact absurd (show(13:Int)=12 from PU) (by decide)
 refine wh ?_;refine sp ?_ ?_<;>intro XN
 ·exact absurd (show(13:Int)=14 from XN) (by decide)
 refine wh ?_;refine sp ?_ ?_<;>intro k13
 ·refine wh ?_;refine⟨[],[some 0],_,_,_,_,GD,t3,cw ?_⟩;refine⟨[],[some 0],_,_,_,_,dp (xe x s d),t3,cw ?_⟩;exact⟨[],[some 0,some 4],_,_,_,t3,rfl,rfl,rfl⟩
 ·exact absurd rfl k13
theorem PW (x:RS) (f:Int) (u:dx) (H:bV x.ak) (hf:201≤f∧f≤206) (hn:sw x.node) (hu:okW true u=true) (h:(bh x.ak x.node).head=true)
 (G:gX x) (ho:x.dq=true) (hj:di x.st.t u.ao u.num=0) (hd:l4 x.an<16) (U:Jh x (u2 x u)) (G1:gX (Gb x u)) (G2:nP (XB x u)):
 VC E0 8 1 [.ptr 0 0,.agg (bp (GA f x.node x.ak.chain x.ak.aV [u]))] (iz x) (DX (uA x u)):=by
 have LG:=XL x.ak H x.node f u hf hn hu h;have GD:=Uc x f x.node x.ak.chain x.ak.aV u G ho hj hd U G1 G2;refine en L0 Tryz.f8 ?_;refine⟨[],[],_,_,_,_,LG,t3,cw ?_⟩
 ((first|(refine⟨fun h_=>?_,fun h_=>?_⟩)|(refine aU (fun h_=>?_) (fun h_=>?_))|(refine aT (fun h_=>?_) (fun h_=>?_)))<;>first|(exfalso;revert h_;decide;done)|(exact absurd rfl h_)|(have dw:=True.intro;clear dw;((conv=>whnf)<;>repeat(with_reducible refine D1 ?_)<;>conv=>whnf)))
 refine sp ?_ ?_<;>intro LH
 ·refine wh ?_;refine⟨[],[some 0],_,_,_,_,GD,t3,cw ?_⟩;refine⟨[],[some 0],_,_,_,_,dp (uA x u),t3,cw ?_⟩;exact⟨[],[some 0,some 4],_,_,_,t3,rfl,rfl,rfl⟩
 ·exact absurd rfl LH
theorem PX (a:Int) (b:List Int) (x y:RS) (f n s d sl:Int) (H:bV x.ak) (hf:sw f) (hn:sw x.node) (yM:0≤sl∧sl≤512) (h:(bh x.ak x.node).succ≠0∧f=(bh x.ak x.node).succ)
 (GD:VC E0 30 1 [.ptr 0 0,.agg (bp (kL f x.node x.ak.chain x.ak.aV n s d sl))] (iz x) (RR (.cB []) 1 (yu a b y))):
 VC E0 8 1 [.ptr 0 0,.agg (bp (kL f x.node x.ak.chain x.ak.aV n s d sl))] (iz x) (Uj a b y):=by
 have LG:=zz x.ak H x.node f n s d sl hf hn yM h;refine en L0 Tryz.f8 ?_;refine⟨[],[],_,_,_,_,LG,t3,cw ?_⟩
 ((first|(refine⟨fun h_=>?_,fun h_=>?_⟩)|(refine aU (fun h_=>?_) (fun h_=>?_))|(refine aT (fun h_=>?_) (fun h_=>?_)))<;>first|(exfalso;revert h_;decide;done)|(exact absurd rfl h_)|(have dw:=True.intro;clear dw;((conv=>whnf)<;>repeat(with_reducible refine D1 ?_)<;>conv=>whnf)))
 refine sp ?_ ?_<;>intro LH
 ·exact absurd (show(13:Int)=17 from LH) (by decide)
 refine wh ?_;refine sp ?_ ?_<;>intro PU
 ·exact absurd (show(13:Int)=12 from PU) (by decide)
 refine wh ?_;refine sp ?_ ?_<;>intro XN
 ·exact absurd (show(13:Int)=14 from XN) (by decide)
 refine wh ?_;refine sp ?_ ?_<;>intro k13
 ·refine wh ?_;refine⟨[],[some 0],_,_,_,_,GD,t3,cw ?_⟩;refine⟨[],[some 0],_,_,_,_,sM a b y,t3,cw ?_⟩;exact⟨[],[some 0,some 4],_,_,_,t3,rfl,rfl,rfl⟩
 ·exact absurd rfl k13
theorem PY (a:Int) (b:List Int) (x y:RS) (f n s d sl:Int) (H:bV x.ak) (hf:sw f) (hn:sw x.node) (yM:0≤sl∧sl≤512) (h:(bh x.ak x.node).succ≠0∧f=(bh x.ak x.node).succ)
 (GD:VC E0 30 1 [.ptr 0 0,.agg (bp (kL f x.node x.ak.chain x.ak.aV n s d sl))] (yu a b x) (RR (.cB []) 1 (yu a b y))):
 VC E0 8 1 [.ptr 0 0,.agg (bp (kL f x.node x.ak.chain x.ak.aV n s d sl))] (yu a b x) (Uj a b y):=by
 have LG:=zz x.ak H x.node f n s d sl hf hn yM h;refine en L0 Tryz.f8 ?_;refine⟨[],[],_,_,_,_,LG,t3,cw ?_⟩
 ((first|(refine⟨fun h_=>?_,fun h_=>?_⟩)|(refine aU (fun h_=>?_) (fun h_=>?_))|(refine aT (fun h_=>?_) (fun h_=>?_)))<;>first|(exfalso;revert h_;decide;done)|(exact absurd rfl h_)|(have dw:=True.intro;clear dw;((conv=>whnf)<;>repeat(with_reducible refine D1 ?_)<;>conv=>whnf)))
 refine sp ?_ ?_<;>intro LH
 ·exact absurd (show(13:Int)=17 from LH) (by decide)
 refine wh ?_;refine sp ?_ ?_<;>intro PU
 ·exact absurd (show(13:Int)=12 from PU) (by decide)
 refine wh ?_;refine sp ?_ ?_<;>intro XN
 ·exact absurd (show(13:Int)=14 from XN) (by decide)
 refine wh ?_;refine sp ?_ ?_<;>intro k13
 ·refine wh ?_;refine⟨[],[some 0],_,_,_,_,GD,t3,cw ?_⟩;refine⟨[],[some 0],_,_,_,_,sM a b y,t3,cw ?_⟩;exact⟨[],[some 0,some 4],_,_,_,t3,rfl,rfl,rfl⟩
 ·exact absurd rfl k13
theorem LI (a:Int) (b:List Int) (x y:RS) (f n s d sl:Int) (H:bV x.ak) (hf:sw f) (hn:sw x.node) (yM:0≤sl∧sl≤512) (h:(bh x.ak x.node).succ≠0∧f=(bh x.ak x.node).succ)
 (GD:VC E0 30 1 [.ptr 0 0,.agg (bp (kL f x.node x.ak.chain x.ak.aV n s d sl))] (yu a b x) (RR (.cB []) 1 (iz y))):
 VC E0 8 1 [.ptr 0 0,.agg (bp (kL f x.node x.ak.chain x.ak.aV n s d sl))] (yu a b x) (DX y):=by
 have LG:=zz x.ak H x.node f n s d sl hf hn yM h;refine en L0 Tryz.f8 ?_;refine⟨[],[],_,_,_,_,LG,t3,cw ?_⟩
 ((first|(refine⟨fun h_=>?_,fun h_=>?_⟩)|(refine aU (fun h_=>?_) (fun h_=>?_))|(refine aT (fun h_=>?_) (fun h_=>?_)))<;>first|(exfalso;revert h_;decide;done)|(exact absurd rfl h_)|(have dw:=True.intro;clear dw;((conv=>whnf)<;>repeat(with_reducible refine D1 ?_)<;>conv=>whnf)))
 refine sp ?_ ?_<;>intro LH
 ·exact absurd (show(13:Int)=17 from LH) (by decide)
 refine wh ?_;refine sp ?_ ?_<;>intro PU
 ·exact absurd (show(13:Int)=12 from PU) (by decide)
 refine wh ?_;refine sp ?_ ?_<;>intro XN
 ·exact absurd (show(13:Int)=14 from XN) (by decide)
 refine wh ?_;refine sp ?_ ?_<;>intro k13
 ·refine wh ?_;refine⟨[],[some 0],_,_,_,_,GD,t3,cw ?_⟩;refine⟨[],[some 0],_,_,_,_,dp y,t3,cw ?_⟩;exact⟨[],[some 0,some 4],_,_,_,t3,rfl,rfl,rfl⟩
 ·exact absurd rfl k13
theorem PZ (x y:RS) (f n s sl:Int) (dt:List Int) (H:bV x.ak) (hf:sw f) (hn:sw x.node) (yM:0≤sl∧sl≤512) (Ma:dt.length≤1024) (h:(bh x.ak x.node).pred≠0∧f=(bh x.ak x.node).pred)
 (GD:VC E0 29 1 [.ptr 0 0,.agg (bp (uB f x.node x.ak.chain x.ak.aV n s sl dt))] (iz x) (RR (.cB []) 1 (iz y))):
 VC E0 8 1 [.ptr 0 0,.agg (bp (uB f x.node x.ak.chain x.ak.aV n s sl dt))] (iz x) (DX y):=by
 have LG:=XM x.ak H x.node f n s sl dt hf hn yM Ma h;refine en L0 Tryz.f8 ?_;refine⟨[],[],_,_,_,_,LG,t3,cw ?_⟩
 ((first|(refine⟨fun h_=>?_,fun h_=>?_⟩)|(refine aU (fun h_=>?_) (fun h_=>?_))|(refine aT (fun h_=>?_) (fun h_=>?_)))<;>first|(exfalso;revert h_;decide;done)|(exact absurd rfl h_)|(have dw:=True.intro;clear dw;((conv=>whnf)<;>repeat(with_reducible refine D1 ?_)<;>conv=>whnf)))
 refine sp ?_ ?_<;>intro LH
 ·exact absurd (show(14:Int)=17 from LH) (by decide)
 refine wh ?_;refine sp ?_ ?_<;>intro PU
 ·exact absurd (show(14:Int)=12 from PU) (by decide)
 refine wh ?_;refine sp ?_ ?_<;>intro XN
 ·refine wh ?_;refine⟨[],[some 0],_,_,_,_,GD,t3,cw ?_⟩;refine⟨[],[some 0],_,_,_,_,dp y,t3,cw ?_⟩;exact⟨[],[some 0,some 4],_,_,_,t3,rfl,rfl,rfl⟩
 ·exact absurd rfl XN
theorem P0 (a:Int) (b:List Int) (x y:RS) (f s d:Int) (us:List dx) (H:bV x.ak) (hf:sw f) (hn:sw x.node) (hl:us.length≤4) (hu:us.all (okW false)=true) (h:(bh x.ak x.node).pred≠0∧f=(bh x.ak x.node).pred)
 (GD:VC E0 28 1 [.ptr 0 0,.agg (bp (uP f x.node x.ak.chain x.ak.aV s d us))] (yu a b x) (RR (.cB []) 1 (yu a b y))):
 VC E0 8 1 [.ptr 0 0,.agg (bp (uP f x.node x.ak.chain x.ak.aV s d us))] (yu a b x) (Uj a b y):=by
 have LG:=Nr x.ak H x.node f s d us hf hn hl hu h;refine en L0 Tryz.f8 ?_;refine⟨[],[],_,_,_,_,LG,t3,cw ?_⟩
 ((first|(refine⟨fun h_=>?_,fun h_=>?_⟩)|(refine aU (fun h_=>?_) (fun h_=>?_))|(refine aT (fun h_=>?_) (fun h_=>?_)))<;>first|(exfalso;revert h_;decide;done)|(exact absurd rfl h_)|(have dw:=True.intro;clear dw;((conv=>whnf)<;>repeat(with_reducible refine D1 ?_)<;>conv=>whnf)))
 refine sp ?_ ?_<;>intro LH
 ·exact absurd (show(12:Int)=17 from LH) (by decide)
 refine wh ?_;refine sp ?_ ?_<;>intro PU
 ·refine wh ?_;refine⟨[],[some 0],_,_,_,_,GD,t3,cw ?_⟩;refine⟨[],[some 0],_,_,_,_,sM a b y,t3,cw ?_⟩;exact⟨[],[some 0,some 4],_,_,_,t3,rfl,rfl,rfl⟩
 ·exact absurd rfl PU
def Uk (u:dx):Bool:=decide (0≤u.seq∧u.seq≤18446744073709551615)&&decide (0≤u.num∧u.num≤18446744073709551615)&&decide (0≤u.ey∧u.ey≤18446744073709551615)&&decide (0≤u.key∧u.key≤4294967295)
theorem Gc {u:dx} (h:Uk u=true):Qv u:=by
 simp only[Uk,Bool.and_eq_true,decide_eq_true_eq]at h;exact⟨h.1.1.1,h.1.1.2,h.1.2,h.2⟩
def abz (v:Vs):Bool:=decide (0≤v.ey∧v.ey≤18446744073709551615)&&decide (0≤v.seq∧v.seq≤18446744073709551615)&&decide (v.data.length≤2048)
theorem XO {v:Vs} (h:abz v=true):Pg v:=by
 simp only[abz,Bool.and_eq_true,decide_eq_true_eq]at h;exact⟨h.1.1,h.1.2,h.2⟩
theorem DY {α:Type} {k:Int} {v:α}:∀{l:List (Int×α)},eS l k=some v→∃e∈l,e.2=v
 |[],h=>by cases h
 |e::l,h=>by
  unfold eS at h;split at h
  ·cases h;exact⟨e,List.mem_cons_self,rfl⟩
  ·obtain⟨e',h1,h2⟩:=DY h;exact⟨e',List.mem_cons_of_mem _ h1,h2⟩
def XP (s:e7):Bool:=s.bs.all fun e=>e.2.all abz&&decide (e.2.length<100000)
theorem Gd {s:e7} (h:XP s=true):zr s:=⟨fun k vs hl=>by
 obtain⟨e,he,rfl⟩:=DY hl;have h2:=List.all_eq_true.1 h e he;rw[Bool.and_eq_true,decide_eq_true_eq,List.all_eq_true]at h2;exact⟨fun v hv=>XO (h2.1 v hv),h2.2⟩⟩
def LJ (r:fw):Bool:=decide (0≤r.ao∧r.ao≤6)
def LK (t:gg):Bool:=LJ t.r1&&LJ t.r2&&LJ t.r3&&LJ t.r4&&LJ t.r5&&LJ t.r6
theorem P1 {t:gg} (h:LK t=true):LA t:=fun c=>by
 simp only[LK,LJ,Bool.and_eq_true,decide_eq_true_eq]at h;obtain⟨⟨⟨⟨⟨h1,h2⟩,h3⟩,h4⟩,h5⟩,h6⟩:=h;unfold iM;split
 ·exact⟨by decide,by decide⟩
 ·show 0≤(t.row c).ao∧(t.row c).ao≤6;unfold gg.row;split
  ·exact h1
  split
  ·exact h2
  split
  ·exact h3
  split
  ·exact h4
  split
  ·exact h5
  split
  ·exact h6
  ·exact⟨by decide,by decide⟩
def Bx (w:gV):Bool:=decide (0≤w.low∧w.low≤50000)&&decide (0≤w.done∧w.done≤50000)&&decide (w.l.length≤10000)&&w.l.all fun u=>decide (u.data.length≤2048)
theorem nd {w:gV} (h:Bx w=true):nN w:=by
 simp only[Bx,Bool.and_eq_true,decide_eq_true_eq,List.all_eq_true]at h;exact⟨h.1.1.1,h.1.1.2,h.1.2,h.2⟩
def tH (x:RS):Bool:=Bx x.an&&XP x.st&&LK x.st.t&&decide (x.an.done≤au x.an)&&decide (au x.an≤40000)&&decide (x.st.bs.length<13)&&decide (x.out.length<50000)
theorem kq {x:RS} (h:tH x=true):gX x:=by
 simp only[tH,Bool.and_eq_true,decide_eq_true_eq]at h;obtain⟨⟨⟨⟨⟨⟨h1,h2⟩,h3⟩,h4⟩,h5⟩,h6⟩,h7⟩:=h;exact⟨nd h1,Gd h2,P1 h3,h4,h5,h6,h7⟩
def DZ (x:RS):Bool:=Bx x.an&&decide (x.out.length<50000)&&(decide (x.role.succ=0)|| !x.known||(fm x.an x.bu 4).isSome)
theorem rN {x:RS} (h:DZ x=true):nP x:=by
 simp only[DZ,Bool.and_eq_true,Bool.or_eq_true,decide_eq_true_eq,Bool.not_eq_true']at h;obtain⟨⟨h1,h2⟩,h3⟩:=h;exact⟨nd h1,h2,by rcases h3 with (h|h)|h;exact .inl h;exact .inr (.inl h);exact .inr (.inr h)⟩
def upB (x:RS) (u:dx):Bool:=Uk u&&decide (uz u=0)&&decide (u.seq - 1=au x.an)&&decide (1≤u.seq)&&decide (x.an.l.length<9999)
theorem Ul {x:RS} {u:dx} (h:upB x u=true):Jh x u:=by
 simp only[upB,Bool.and_eq_true,decide_eq_true_eq]at h;exact⟨Gc h.1.1.1.1,h.1.1.1.2,h.1.1.2,h.1.2,h.2⟩
def XQ:RS→List dx→Bool
 |_,[]=>true
 |x,u::l=>tH x&&upB x u&&XQ (Bn x u) l
theorem Nt:∀{l:List dx} {x:RS},XQ x l=true→∀(i:Nat) (h:i<l.length),gX ((l.take i).foldl Bn x)∧Jh ((l.take i).foldl Bn x) l[i]
 |[],_,_,i,h=>absurd h (Nat.not_lt_zero _)
 |u::l,x,hb,i,h=>by
  unfold XQ at hb;simp only[Bool.and_eq_true]at hb;obtain⟨⟨h1,h2⟩,h3⟩:=hb;cases i with
  |zero=>exact⟨kq h1,Ul h2⟩
  |succ i=>exact Nt h3 i (by simpa using h)
def xw (a:Int):Bool:=decide ((1≤a∧a≤24)∨(201≤a∧a≤206))
theorem jy {a:Int} (h:xw a=true):sw a:=by
 simp only[xw,decide_eq_true_eq]at h;exact h
def XR (x:RS) (m:Lr):Bool:=decide (m.to=x.node)&&decide (m.chain=x.ak.chain)&&decide (m.aV=x.ak.aV)&&decide (m.num=0)&&decide (m.ey=0)&&decide (m.slot=0)&&decide (m.code=0)&&m.data.isEmpty
theorem Nu {x:RS} {m:Lr} (hk:m.kind=12) (h:XR x m=true):m=uP m.oI x.node x.ak.chain x.ak.aV m.seq m.done m.us:=by
 obtain⟨a1,a2,a3,a4,a5,a6,a7,a8,a9,a10,a11,a12,a13⟩:=m;simp only[XR,Bool.and_eq_true,decide_eq_true_eq,List.isEmpty_iff]at h;obtain⟨⟨⟨⟨⟨⟨⟨rfl,rfl⟩,rfl⟩,rfl⟩,rfl⟩,rfl⟩,rfl⟩,rfl⟩:=h;cases hk;rfl
def XS (x:RS) (m:Lr):Bool:=decide (m.to=x.node)&&decide (m.chain=x.ak.chain)&&decide (m.aV=x.ak.aV)&&decide (m.ey=0)&&decide (m.code=0)&&m.us.isEmpty&&m.data.isEmpty
theorem Nv {x:RS} {m:Lr} (hk:m.kind=13) (h:XS x m=true):m=kL m.oI x.node x.ak.chain x.ak.aV m.num m.seq m.done m.slot:=by
 obtain⟨a1,a2,a3,a4,a5,a6,a7,a8,a9,a10,a11,a12,a13⟩:=m;simp only[XS,Bool.and_eq_true,decide_eq_true_eq,List.isEmpty_iff]at h;obtain⟨⟨⟨⟨⟨⟨rfl,rfl⟩,rfl⟩,rfl⟩,rfl⟩,rfl⟩,rfl⟩:=h;cases hk;rfl
def afS (x:RS) (m:Lr):Bool:=
 XR x m&&(decide (bV x.ak)&&(xw m.oI&&(xw x.node&&(m.us.all (okW false)&&(decide ((bh x.ak x.node).pred≠0∧m.oI=(bh x.ak x.node).pred)&&(tH x&&((!x.role.tail|| !x.role.jm)&&(decide (m.us.length≤4)&&
 ((m.us.all fun u=>decide (u.data.length≤2048)&&Uk u)&&(XQ x (dX m.us (au x.an))&&(tH (g6 x m.us)&&(DZ (jo (LC x m.done m.us))&&tH (zX x m.us)))))))))))))
def afT (x:RS) (m:Lr):Bool:=
 XS x m&&(decide (bV x.ak)&&(xw m.oI&&(xw x.node&&(decide (0≤m.slot∧m.slot≤512)&&(decide ((bh x.ak x.node).succ≠0∧m.oI=(bh x.ak x.node).succ)&&(Bx x.an&&(tH (Bw x m.seq)&&
 ((fm x.an (max x.bu m.seq) 0).isSome&&(decide (0≤m.done∧m.done≤1000000)&&DZ (GF x m.seq m.done))))))))))
def afU (x:RS) (m:Lr) (u:dx):Bool:=
 (decide (m.to=x.node)&&decide (m.chain=x.ak.chain)&&decide (m.aV=x.ak.aV)&&decide (m.num=0)&&decide (m.seq=0)&&decide (m.done=0)&&decide (m.ey=0)&&decide (m.slot=0)&&decide (m.code=0)&&m.data.isEmpty)&&
 (decide (bV x.ak)&&(decide (201≤m.oI∧m.oI≤206)&&(xw x.node&&(okW true u&&((bh x.ak x.node).head&&(tH x&&(x.dq&&(decide (di x.st.t u.ao u.num=0)&&(decide (l4 x.an<16)&&(upB x (u2 x u)&&(tH (Gb x u)&&DZ (XB x u))))))))))))
def xy (x:RS) (m:Lr):Bool:=
 if m.kind=12 then afS x m else if m.kind=13 then afT x m else if m.kind=17 then(match m.us with|[u]=>afU x m u|_=>false)else false
theorem Ge {x:RS} {m:Lr} (h:xy x m=true):VC E0 8 1 [.ptr 0 0,.agg (bp m)] (iz x) (DX (iu x m)):=by
 unfold xy at h;split at h
 ·rename_i hk;simp only[afS,Bool.and_eq_true,Bool.or_eq_true,decide_eq_true_eq,Bool.not_eq_true',List.all_eq_true]at h;obtain⟨h1,h2,h3,h4,h5,h6,h7,h8,Kv,Qw,JH,Vp,h14,h15⟩:=h;have e:=Nu hk h1;have et:iu x m=tB x m.done m.us:=by unfold iu;rw[if_neg (by rw[hk];decide),if_pos hk]
  rw[et,e];exact PT x m.oI m.seq m.done m.us h2 (jy h3) (jy h4) (List.all_eq_true.2 h5) h6 (kq h7) (fun q=>h8.resolve_left (by rw[q];exact Bool.noConfusion)) Kv (fun u hu=>⟨(Qw u hu).1,Gc (Qw u hu).2⟩) (Nt JH) (kq Vp) (rN h14) (kq h15)
 split at h
 ·rename_i Mf hk;simp only[afT,Bool.and_eq_true,decide_eq_true_eq]at h;obtain⟨h1,h2,h3,h4,h5,h6,h7,h8,h9,Kv,Qw⟩:=h;have e:=Nv hk h1;have et:iu x m=xe x m.seq m.done:=by unfold iu;rw[if_neg (by rw[hk];decide),if_neg Mf,if_pos hk]
  rw[et,e];exact PV x m.oI m.num m.seq m.done m.slot h2 (jy h3) (jy h4) h5 h6 (nd h7) (kq h8) h9 Kv (rN Qw)
 split at h
 ·rename_i Mf sY hk;split at h
  ·rename_i u hu;simp only[afU,Bool.and_eq_true,decide_eq_true_eq,List.isEmpty_iff]at h;obtain⟨⟨⟨⟨⟨⟨⟨⟨⟨⟨a1,a2⟩,a3⟩,a4⟩,a5⟩,a6⟩,a7⟩,a8⟩,a9⟩,a10⟩,h2,h3,h4,h5,h6,h7,h8,h9,Kv,Qw,JH,Vp⟩:=h;have e:m=GA m.oI x.node x.ak.chain x.ak.aV [u]:=by
    obtain⟨m1,m2,m3,m4,m5,m6,m7,m8,m9,m10,m11,m12,m13⟩:=m;cases a1;cases a2;cases a3;cases a4;cases a5;cases a6;cases a7;cases a8;cases a9;cases a10;cases hk;cases hu;rfl
   have et:iu x m=uA x u:=by unfold iu;rw[if_pos hk,hu]
   rw[et,e];exact PW x m.oI u h2 h3 (jy h4) h5 h6 (kq h7) h8 h9 Kv (Ul Qw) (kq JH) (rN Vp)
  ·cases h
 ·cases h
def By (x:RS):Bool:=decide (x.ak.nodes.length<1000000)&&(decide (x.an.done≤au x.an)&&DZ x)
theorem Bz {x:RS} (h:By x=true):VC E0 17 1 [.ptr 0 0] (iz x) (Ze x):=by
 simp only[By,Bool.and_eq_true,decide_eq_true_eq]at h;exact XK x h.1 (rN h.2.2).an h.2.1 (rN h.2.2)
section
variable {σ α:Type}
def uJ (step:σ→α→σ) (ok:σ→α→Bool):List α→σ→Bool
 |[],_=>true
 |a::l,s=>ok s a&&uJ step ok l (step s a)
theorem oM {step:σ→α→σ} {ok:σ→α→Bool}:∀{l:List α} {s:σ},uJ step ok l s=true→∀(i:Nat) (h:i<l.length),ok ((l.take i).foldl step s) l[i]=true
 |[],_,_,i,h=>absurd h (Nat.not_lt_zero _)
 |a::l,s,hb,i,h=>by
  unfold uJ at hb;rw[Bool.and_eq_true]at hb;cases i with
  |zero=>exact hb.1
  |succ i=>exact oM hb.2 i (by simpa using h)
end
def Nw (n:Nat) (w:jq) (m:Lr):Bool:=decide (w.more.length≤1000)&&(decide (w.told.length≤1000)&&(if 1≤m.to∧m.to≤n then(match w.all[(m.to - 1).toNat]? with
 |some x=>xy x m&&decide ((iu x m).out.length≤1000)
 |none=>false)else true))
def abC (w:jq) (i:Nat):Bool:=decide (w.more.length≤1000)&&(match w.all[i]? with
 |some x=>By x&&(decide ((cq x).out.length≤1000)&&x.out.isEmpty)
 |none=>false)
@[reducible] def Wd:Type:=List RS×List Lr×List Lr
@[reducible] def Zf (w:Wd):jq:=w.2.1.foldl (mU w.1.length) ⟨w.1,[],w.2.2⟩
def XT (w:Wd):Bool:=decide (w.2.1.length≤1000)&&(uJ (mU w.1.length) (Nw w.1.length) w.2.1 ⟨w.1,[],w.2.2⟩&&uJ vQ abC (List.range w.1.length) (Zf w))
def l9 (w:Wd):Nat→Wd
 |0=>w
 |r+1=>M0 (l9 w r)
def okN (w:Wd):Nat→Bool
 |0=>true
 |r+1=>okN w r&&XT (l9 w r)
theorem Um {w:Wd}:∀{r:Nat},okN w r=true→∀q,q<r→XT (l9 w q)=true
 |0,_,q,h=>absurd h (Nat.not_lt_zero _)
 |r+1,hb,q,h=>by
  unfold okN at hb;rw[Bool.and_eq_true]at hb;rcases Nat.lt_or_ge q r with h1|h1
  ·exact Um hb.1 q h1
  ·obtain rfl:q=r:=by omega
   exact hb.2
def anr (n:Nat) (all:List RS) (i:Nat):Wd:=match all[0]? with
 |some x=>(let y:=iu x (nM (eU n) 1 (1+(i:Int) % 6) i);(all.set 0 (bE y),y.out,[]))
 |none=>(all,[],[])
def alu (n:Nat) (all:List RS) (i:Nat):Bool:=match all[0]? with
 |some x=>xy x (nM (eU n) 1 (1+(i:Int) % 6) i)
 |none=>false
def Jk (x:RS):Bool:=XP x.st&&decide (0≤x.st.e∧x.st.e≤18446744073709551615)&&(gj x.st.t).all (fun r=>decide (0≤r.ao∧r.ao≤6)&&decide (0≤r.num∧r.num≤18446744073709551615)&&decide (0≤r.seq∧r.seq≤18446744073709551615)&&decide (0≤r.code∧r.code≤255)&&decide (0≤r.ey∧r.ey≤18446744073709551615))&&decide (x.st.bs.length≤12)&&(iT x.st.bs).all fun k=>decide (0≤k∧k≤4294967295)
theorem BA {x:RS} (h:Jk x=true):yp x.st:=by
 simp only[Jk,Bool.and_eq_true,decide_eq_true_eq,List.all_eq_true]at h;obtain⟨⟨⟨⟨h1,h2⟩,h3⟩,h4⟩,h5⟩:=h;exact⟨Gd h1,h2,fun r hr=>by
  obtain⟨⟨⟨⟨a,b⟩,c⟩,d⟩,e⟩:=h3 r hr;exact⟨a,b,c,d,e⟩,h4,h5⟩
def Uo (a b:Vs):Bool:=decide (a.ey=b.ey)&&decide (a.seq=b.seq)&&decide (a.data=b.data)
theorem Up {a b:Vs} (h:Uo a b=true):a=b:=by
 simp only[Uo,Bool.and_eq_true,decide_eq_true_eq]at h;obtain⟨⟨h1,h2⟩,h3⟩:=h;cases a;cases b;simp_all
def Jl {α:Type} (f:α→α→Bool):List α→List α→Bool
 |[],[]=>true
 |a::l,b::m=>f a b&&Jl f l m
 |_,_=>false
theorem sP {α:Type} {f:α→α→Bool} (hf:∀a b,f a b=true→a=b):∀{l m:List α},Jl f l m=true→l=m
 |[],[],_=>rfl
 |a::l,b::m,h=>by
  unfold Jl at h;rw[Bool.and_eq_true]at h;rw[hf a b h.1,sP hf h.2]
 |[],_::_,h=>by cases h
 |_::_,[],h=>by cases h
def yz (a b:fw):Bool:=decide (a.ao=b.ao)&&decide (a.num=b.num)&&decide (a.seq=b.seq)&&decide (a.code=b.code)&&decide (a.ey=b.ey)
theorem oN {a b:fw} (h:yz a b=true):a=b:=by
 simp only[yz,Bool.and_eq_true,decide_eq_true_eq]at h;obtain⟨⟨⟨⟨h1,h2⟩,h3⟩,h4⟩,h5⟩:=h;cases a;cases b;simp_all
def XU (a b:e7):Bool:=decide (a.e=b.e)&&(Jl (fun p q=>decide (p.1=q.1)&&Jl Uo p.2 q.2) a.bs b.bs&&(yz a.t.r1 b.t.r1&&(yz a.t.r2 b.t.r2&&(yz a.t.r3 b.t.r3&&(yz a.t.r4 b.t.r4&&(yz a.t.r5 b.t.r5&&yz a.t.r6 b.t.r6))))))
theorem XV {a b:e7} (h:XU a b=true):a=b:=by
 simp only[XU,Bool.and_eq_true,decide_eq_true_eq]at h;obtain⟨h1,h2,h3,h4,h5,h6,h7,h8⟩:=h;have h2:=sP (fun p q Qo=>by
  rw[Bool.and_eq_true,decide_eq_true_eq]at Qo;exact Prod.ext Qo.1 (sP (fun _ _=>Up) Qo.2)) h2
 obtain⟨ae,ab,⟨a1,a2,a3,a4,a5,a6⟩⟩:=a;obtain⟨be,bb,⟨b1,b2,b3,b4,b5,b6⟩⟩:=b;cases h1;cases h2;cases oN h3;cases oN h4;cases oN h5;cases oN h6;cases oN h7;cases oN h8;rfl
def ans (n:Nat) (i:Nat) (all:List RS):Bool:=decide (all.length=n)&&(match all[0]? with
 |some x0=>all.all fun x=>decide (x.st.e=(i:Int))&&(decide (x.an.done=(i:Int))&&(XU x.st x0.st&&Jk x))
 |none=>false)
theorem Uq {α:Type} {l:List α} {P:α→Prop} {i:Nat} (h:i<l.length) (h0:∀b∈l.take i,P b) (hk:P l[i]):∀b∈l.take (i+1),P b:=by
 rw[List.take_succ_eq_append_getElem h];intro b m;rcases List.mem_append.1 m with m|m
 ·exact h0 b m
 ·simp only[List.mem_singleton]at m;subst m;exact hk
@[reducible] def stF (s:e7):Ob:=[(0,Xd s),(1,vU s.bs),(2,.cells [.ptr 0 0])]
theorem Ur (s:e7) (r:fw):VC E0 191 3 [.agg (yX r),.ptr 2 0] (stF s) (RR (.s (.bool (decide (s.e<r.seq)))) 3 (stF s)):=by
 refine en L0 Tryz.f191 ?_;refine sp ?_ ?_<;>intro h
 all_goals
  refine wh ?_;refine⟨[],[some 0,some 1,some 2],_,_,_,tx ?_,rfl,rfl,rfl⟩;exact Lz.of (aX (by simp_all))
@[reducible] def BB (s:e7) (r:fw):Bool:=decide (s.e<r.seq)
@[reducible] def D0 (s:e7) (l:List fw):Int:=if l.any (BB s)then((l.findIdx (BB s):Nat):Int)else -1
theorem Us (s:e7) (l:List fw) (hl:l.length<1000000):VC E0 239 3 [.sl 5 (l.map yX) false,.dg 191 [] [.ptr 2 0]] (stF s) (RR (.s (.int .i64 (D0 s l))) 3 (stF s)):=by
 refine en L0 Tryz.f239 ?_;refine⟨fun q f o c=>∃i:Nat,i≤l.length∧q=l.length - i∧(∀x∈l.take i,¬BB s x=true)∧c=3∧f=[(0,.sl 5 (l.map yX) false),(1,.dg 191 [] [.ptr 2 0]),(7,.s (.int .i64 l.length)),(8,.s (.int .i64 i))]∧o=stF s,⟨l.length,?_⟩,?_⟩
 ·refine⟨[],[some 0,some 1,some 2],?_⟩
  iterate 3 constructor
  refine⟨⟨?_,?_,?_⟩,⟨0,Nat.zero_le _,rfl,by simp,rfl,rfl,rfl⟩⟩
  all_goals(repeat' first|exact LF|constructor)
  all_goals exact Lz.int (by rw[List.length_map])
 ·rintro q f1 o1 c1 ⟨i,hi,rfl,h0,rfl,rfl,rfl⟩;refine wh ?_;refine sp ?_ ?_<;>intro h
  ·have h:i<l.length:=by have h:(i:Int)<l.length:=h
                         omega
   have hf:=Ur s l[i];refine wh ?_;refine oB h ?_;cases hb:BB s l[i]
   ·rw[show decide (s.e<l[i].seq)=false from hb]at hf;refine⟨[],[some 0,some 1,some 2],_,_,_,_,hf,t3,cw ?_⟩;refine⟨l.length - (i+1),?_,om⟩;exact⟨[],[some 0,some 1,some 2],_,_,_,t3,⟨i+1,h,rfl,Uq h h0 (by rw[hb];decide),rfl,rfl,rfl⟩⟩
   ·rw[show decide (s.e<l[i].seq)=true from hb]at hf;refine⟨[],[some 0,some 1,some 2],_,_,_,_,hf,t3,cw ?_⟩;refine⟨[],[some 0,some 1,some 2],?_⟩
    iterate 3 constructor
    refine⟨⟨?_,?_,?_⟩,rfl,rfl,rfl⟩
    all_goals(repeat' first|exact LF|constructor)
    all_goals exact Lz.int (by
     unfold D0;rw[if_pos (List.any_eq_true.2 ⟨_,List.getElem_mem h,hb⟩)]
     congr 1
     exact Eq.symm ((List.findIdx_eq h).2 ⟨hb,fun j hj=>by
      have:=h0 l[j] (List.mem_take_iff_getElem.2 ⟨j,om,rfl⟩);simpa using this⟩))
  ·obtain rfl:i=l.length:=by have h:¬(i:Int)<l.length:=h;omega
   rw[List.take_length]at h0;refine wh ?_;refine⟨[],[some 0,some 1,some 2],?_⟩
   iterate 3 constructor
   refine⟨⟨?_,?_,?_⟩,rfl,rfl,rfl⟩
   all_goals(repeat' first|exact LF|constructor)
   all_goals exact Lz.int (by
    unfold D0;rw[if_neg];intro q;obtain⟨x,m,hx⟩:=List.any_eq_true.1 q;exact h0 x m hx)
@[reducible] def Ny (s:e7):Bool:= !((gj s.t).any (BB s))
theorem XW (s:e7):VC E0 155 2 [.ptr 0 0] (sK s) (RR (.s (.bool (Ny s))) 2 (sK s)):=by
 have hi:=Us s (gj s.t) (by have:=xl s.t;omega);have ajK:0≤D0 s (gj s.t)↔(gj s.t).any (BB s)=true:=by
  unfold D0;split
  ·rename_i h;exact⟨fun _=>h,fun _=>by omega⟩
  ·rename_i h;exact⟨fun q=>absurd q (by decide),fun q=>absurd q h⟩
 have ajL:VC E0 190 3 [.sl 5 ((gj s.t).map yX) false,.dg 191 [] [.ptr 2 0]] (stF s) (RR (.s (.bool ((gj s.t).any (BB s)))) 3 (stF s)):=by
  generalize D0 s (gj s.t)=j at hi ajK;refine en L0 Tryz.f190 ?_;refine⟨[],[some 0,some 1,some 2],_,_,_,_,hi,t3,cw ?_⟩;refine sp ?_ ?_<;>intro h
  all_goals
   refine wh ?_;refine⟨[],[some 0,some 1,some 2],_,_,_,tx ?_,rfl,rfl,rfl⟩;exact Lz.of (aX (by simp_all))
 refine en L0 Tryz.f155 ?_;refine⟨[],[some 3],_,_,_,_,Lt s.t,t3,cw ?_⟩;refine⟨[],[some 0,some 1,some 2],_,_,_,_,ajL,t3,cw ?_⟩;refine⟨[],[some 0,some 1],?_⟩
 iterate 3 constructor
 refine⟨⟨?_,?_,?_⟩,rfl,rfl,rfl⟩
 all_goals(repeat' first|exact LF|constructor)
 all_goals trace_state
@[reducible] def CA (s:cW):TO:=.cells [.sl 1 (s.b.map fg) false,.s (.int .i64 s.e)]
theorem afW (l:List Int) (hl:l.length<1000000):VC E0 152 0 [.sl 1 (l.map fg) false] [] (RR (.ptr 0 0) 1 [(0,CA ⟨l,0⟩)]):=by
 refine en L0 Tryz.f152 ?_;refine⟨[],[],_,_,_,_,xj l hl,t3,cw ?_⟩;exact⟨[],[some 0],_,_,_,t3,rfl,rfl,rfl⟩
theorem Gf (s:cW):VC E0 158 1 [.ptr 0 0] [(0,CA s)] (RR (.s (.int .i64 s.e)) 1 [(0,CA s)]):=by
 refine en L0 Tryz.f158 ?_;exact⟨[],[some 0],_,_,_,t3,rfl,rfl,rfl⟩
theorem xz (s:cW) (e:Int):VC E0 192 1 [.ptr 0 0,.s (.int .i64 e)] [(0,CA s)] (RR (.cB []) 1 [(0,CA ⟨[],if s.e=0 then e else s.e⟩)]):=by
 refine en L0 Tryz.f192 ?_;refine sp ?_ ?_<;>intro h
 ·have h:s.e=0:=h;rw[if_pos h];refine wh ?_;exact⟨[],[some 0],_,_,_,t3,rfl,rfl,rfl⟩
 ·have h:¬s.e=0:=h;rw[if_neg h];refine wh ?_;exact⟨[],[some 0],_,_,_,t3,rfl,rfl,rfl⟩
theorem Gg (s:cW) (n:Nat) (_:n<1000000):VC E0 193 1 [.ptr 0 0,.s (.int .i64 n)] [(0,CA s)] (RR (.cB [.sl 1 ((((s.next n).2).getD []).map fg) false,.s (.bool ((s.next n).2).isSome)]) 1 [(0,CA (s.next n).1)]):=by
 refine en L0 Tryz.f193 ?_;refine sp ?_ ?_<;>intro h
 ·have h:s.e≠0:=h;have e:s.next n=(s,none):=by unfold cW.next;rw[if_pos h]
  rw[e];refine wh ?_;exact⟨[],[some 0],_,_,_,t3,rfl,rfl,rfl⟩
 ·have h:¬s.e≠0:=h;have h0:s.e=0:=by omega
  refine wh ?_;refine sp ?_ ?_<;>intro h2
  ·have h2:s.b.length<n:=by have:(((s.b.map fg).length:Nat):Int)<n:=h2
                            rw[List.length_map]at this;omega
   have e:s.next n=(⟨[],3⟩,none):=by unfold cW.next;rw[if_neg h,if_pos h2]
   have hf:=xz s 3;rw[if_pos h0]at hf;rw[e];refine wh ?_;refine⟨[],[some 0],_,_,_,_,hf,t3,cw ?_⟩;exact⟨[],[some 0],_,_,_,t3,rfl,rfl,rfl⟩
  ·have h2:¬s.b.length<n:=by have:¬(((s.b.map fg).length:Nat):Int)<n:=h2
                             rw[List.length_map]at this;omega
   have e:s.next n=(⟨s.b.drop n,0⟩,some (s.b.take n)):=by unfold cW.next;rw[if_neg h,if_neg h2]
   rw[e];refine wh ?_;refine⟨by simp;omega,?_⟩;refine wh ?_;refine⟨by simp;omega,?_⟩;refine wh ?_;refine⟨[],[some 0],?_⟩
   iterate 3 constructor
   refine⟨⟨?_,?_,?_⟩,rfl,rfl,rfl⟩
   all_goals(repeat' first|exact LF|constructor)
   all_goals first
    |exact Lz.int h0
    |(refine Lz.of ?_;simp;done)
    |(refine Lz.of ?_;rw[Int.toNat_natCast,Int.toNat_natCast,List.take_of_length_le (by simp),List.map_drop])
    |(refine Lw.of ?_;rw[Int.toNat_natCast,Int.toNat_natCast,List.take_of_length_le (by simp),List.map_drop])
theorem D2 (l:List Int) (hl:l.length<1000000) (hb:∀x∈l,0≤x∧x<256):VC E0 194 0 [.sl 1 (l.map fg) false] [] (RR (.s (.int .u64 (iy l))) 0 []):=by
 refine en L0 Tryz.f194 ?_;refine⟨fun k f o c=>∃i:Nat,i≤l.length∧k=l.length - i∧c=0∧f=[(0,.sl 1 (l.map fg) false),(3,.s (.int .u64 (iy (l.take i)))),(6,.sl 1 (l.map fg) false),(7,.s (.int .i64 l.length)),(8,.s (.int .i64 i))]∧o=[],⟨l.length,?_⟩,?_⟩
 ·refine⟨[],[],?_⟩
  iterate 3 constructor
  refine⟨⟨?_,?_,?_⟩,⟨0,Nat.zero_le _,rfl,rfl,rfl,rfl⟩⟩
  all_goals(repeat' first|exact LF|constructor)
  all_goals exact Lz.int (by simp)
 ·rintro k f1 o1 c1 ⟨i,hi,rfl,rfl,rfl,rfl⟩;refine wh ?_;refine sp ?_ ?_<;>intro h
  ·have h:i<l.length:=by have:(i:Int)<l.length:=h
                         omega
   refine wh ?_;refine oB h ?_;refine wh ?_;refine⟨l.length - (i+1),?_,om⟩;refine⟨[],[],?_⟩
   iterate 3 constructor
   refine⟨⟨?_,?_,?_⟩,⟨i+1,h,rfl,rfl,rfl,rfl⟩⟩
   all_goals(repeat' first|exact LF|constructor)
   all_goals exact Lz.int (by
    have hx:=hb _ (List.getElem_mem h);have h0:=l7 (l.take i);rw[jT l i h,xi,←or_eq (iy (l.take i)) l[i] h0.1 hx,show IntKind.u64.wrap l[i]=l[i] by rw[IntKind.wrap_u64];omega];rfl)
  ·have zO:i=l.length:=by have:¬(i:Int)<l.length:=h
                          omega
   subst zO;rw[List.take_length];refine wh ?_;exact⟨[],[],_,_,_,t3,rfl,rfl,rfl⟩
theorem Gj (s:cW) (w:Nat) (m:Int) (h1:1≤w) (h8:w≤8) (hb:∀x∈s.b,0≤x∧x<256):VC E0 156 1 [.ptr 0 0,.s (.int .i64 w),.s (.int .u64 m)] [(0,CA s)] (RR (.s (.int .u64 (s.upto w m).2)) 1 [(0,CA (s.upto w m).1)]):=by
 have nX:=Gg s w om;have nk:=(cW.l8 (n:=w) hb).2;have u4:=fun l=>cW.vV (s:=s) (n:=w) (l:=l);have bC:s.e≠0→s.upto w m=(s,0):=fun h=>by unfold cW.upto cW.next;rw[if_pos h]
 have hun:∀s',s.next w=(s',none)→s.upto w m=(s',0):=fun s' h=>by unfold cW.upto;rw[h]
 have hus:∀s' b,s.next w=(s',some b)→s'.e=0∧s.upto w m=if iy b>m then(⟨[],4⟩,0)else(s',iy b):=fun s' b h=>by
  refine⟨?_,by unfold cW.upto;rw[h]⟩;unfold cW.next at h;split at h
  ·cases h
  ·split at h
   ·cases h
   ·cases h;rfl
 refine en L0 Tryz.f156 ?_;refine sp ?_ ?_<;>intro h
 ·have h:s.e≠0:=h;rw[bC h];refine wh ?_;exact⟨[],[some 0],_,_,_,t3,rfl,rfl,rfl⟩
 ·refine wh ?_;refine⟨[],[],_,_,_,_,I3 w h1 h8,t3,cw ?_⟩;generalize hx:s.next w=q at nX nk u4;obtain⟨s',r⟩:=q;cases r with
  |none=>
   rw[hun s' hx];refine⟨[],[some 0],_,_,_,_,nX,t3,cw ?_⟩;exact⟨[],[some 0],_,_,_,t3,rfl,rfl,rfl⟩
  |some b=>
   obtain⟨h0,hu⟩:=hus s' b hx;have hl:=u4 b rfl;rw[hu];refine⟨[],[some 0],_,_,_,_,nX,t3,cw ?_⟩;refine⟨[],[],_,_,_,_,D2 b om (nk b rfl),t3,cw ?_⟩;refine sp ?_ ?_<;>intro hm
   ·have hm:iy b>m:=hm;rw[if_pos hm];refine wh ?_;have hf:=xz s' 4;rw[if_pos h0]at hf;refine⟨[],[some 0],_,_,_,_,hf,t3,cw ?_⟩;exact⟨[],[some 0],_,_,_,t3,rfl,rfl,rfl⟩
   ·have hm:¬iy b>m:=hm;rw[if_neg hm];refine wh ?_;exact⟨[],[some 0],_,_,_,t3,rfl,rfl,rfl⟩
theorem pL (s:cW) (w:Nat) (h1:1≤w) (h8:w≤8) (hb:∀x∈s.b,0≤x∧x<256):VC E0 153 1 [.ptr 0 0,.s (.int .i64 w)] [(0,CA s)] (RR (.s (.int .u64 (s.get w).2)) 1 [(0,CA (s.get w).1)]):=by
 refine en L0 Tryz.f153 ?_;refine⟨[],[some 0],_,_,_,_,Gj s w 18446744073709551615 h1 h8 hb,t3,cw ?_⟩;exact⟨[],[some 0],_,_,_,t3,rfl,rfl,rfl⟩
theorem abE (s:cW) (n:Nat) (hn:n<1000000):VC E0 195 1 [.ptr 0 0,.s (.int .i64 n)] [(0,CA s)] (RR (.sl 1 (((s.raw n).2).map fg) false) 1 [(0,CA (s.raw n).1)]):=by
 have hx:=Gg s n hn;have hl:=fun l=>cW.vV (s:=s) (n:=n) (l:=l);have e:s.raw n=((s.next n).1,((s.next n).2).getD []):=rfl;rw[e];generalize s.next n=q at hx hl;obtain⟨s',r⟩:=q;have hm:(if(0:Int)>(n:Int)then 0 else(n:Int))=n:=if_neg om;refine en L0 Tryz.f195 ?_;refine sp ?_ ?_<;>intro h
 ·exact absurd h (by show¬(n:Int)<0;omega)
 refine wh ?_;refine⟨[],[some 0],_,_,_,_,hx,⟨by((repeat' first|exact LF|constructor);all_goals(exact Lz.int hm)),by((repeat' first|exact LF|constructor);all_goals(exact Lz.int hm)),by rfl⟩,?_⟩;rintro r o' c' ⟨rfl,rfl,rfl⟩;refine wh ?_;cases r with
 |none=>
  refine wh ?_;exact⟨[],[some 0],_,_,_,t3,rfl,rfl,rfl⟩
 |some l=>
  refine wh ?_;refine⟨[],[],_,_,_,_,xj l (by have:=hl l rfl;omega),t3,cw ?_⟩;exact⟨[],[some 0],_,_,_,t3,rfl,rfl,rfl⟩
def cW.text (s:cW) (m:Int):cW×List Int:=
 match s.next 2 with
 |(s',none)=>(s',[])
 |(s',some b)=>if iy b>m then(⟨[],6⟩,[])else s'.raw (iy b).toNat
def cW.done (s:cW):Int:=if s.e≠0 then s.e else if 0<s.b.length then 4 else 0
theorem Ut (s:cW):VC E0 159 1 [.ptr 0 0] [(0,CA s)] (RR (.s (.int .i64 s.done)) 1 [(0,CA s)]):=by
 refine en L0 Tryz.f159 ?_;refine⟨[],[some 0],_,_,_,_,Gf s,t3,cw ?_⟩;refine sp ?_ ?_<;>intro h
 ·have h:s.e≠0:=h;rw[show s.done=s.e from if_pos h];refine wh ?_;exact⟨[],[some 0],_,_,_,t3,rfl,rfl,rfl⟩
 ·have h:¬s.e≠0:=h;refine wh ?_;refine sp ?_ ?_<;>intro h2
  ·have h2:0<s.b.length:=by have:(0:Int)<(((s.b.map fg).length:Nat):Int):=h2
                            rw[List.length_map]at this;omega
   rw[show s.done=4 from by unfold cW.done;rw[if_neg h,if_pos h2]];refine wh ?_;exact⟨[],[some 0],_,_,_,t3,rfl,rfl,rfl⟩
  ·have h2:¬0<s.b.length:=by have:¬(0:Int)<(((s.b.map fg).length:Nat):Int):=h2
                             rw[List.length_map]at this;omega
   rw[show s.done=0 from by unfold cW.done;rw[if_neg h,if_neg h2]];refine wh ?_;exact⟨[],[some 0],_,_,_,t3,rfl,rfl,rfl⟩
theorem XX (s:cW) (m:Int) (hb:∀x∈s.b,0≤x∧x<256):VC E0 157 1 [.ptr 0 0,.s (.int .i64 m)] [(0,CA s)] (RR (.sl 1 (bm (s.text m).2) false) 1 [(0,CA (s.text m).1)]):=by
 have nX:=Gg s 2 (by decide);have nk:=(cW.l8 (n:=2) hb).2;have u4:=fun l=>cW.vV (s:=s) (n:=2) (l:=l);have hun:∀s',s.next 2=(s',none)→s.text m=(s',[]):=fun s' h=>by unfold cW.text;rw[h]
 have hus:∀s' b,s.next 2=(s',some b)→s'.e=0∧s.text m=if iy b>m then(⟨[],6⟩,[])else s'.raw (iy b).toNat:=fun s' b h=>by
  refine⟨?_,by unfold cW.text;rw[h]⟩;unfold cW.next at h;split at h
  ·cases h
  ·split at h
   ·cases h
   ·cases h;rfl
 generalize s.next 2=q at nX nk u4 hun hus;obtain⟨s',r⟩:=q;cases r with
 |none=>
  rw[hun s' rfl];refine en L0 Tryz.f157 ?_;refine⟨[],[some 0],_,_,_,_,nX,t3,cw ?_⟩;exact⟨[],[some 0],_,_,_,t3,rfl,rfl,rfl⟩
 |some b=>
  obtain⟨h0,hu⟩:=hus s' b rfl;have hl:b.length=2:=u4 b rfl;have bw:=Xj b om (nk b rfl);rw[hl]at bw;have hr:=l7 b;have ZL:IntKind.i64.wrap (iy b)=((iy b).toNat:Int):=by rw[IntWalk.i64_in _ om];omega
  rw[hu];refine en L0 Tryz.f157 ?_;refine⟨[],[some 0],_,_,_,_,nX,t3,cw ?_⟩;refine⟨[],[],_,_,_,_,D2 b om (nk b rfl),t3,cw ?_⟩;rw[ZL];refine sp ?_ ?_<;>intro hm
  ·have hm:iy b>m:=by have hm:m<((iy b).toNat:Int):=hm
                      omega
   rw[if_pos hm];refine wh ?_;have hf:=xz s' 6;rw[if_pos h0]at hf;refine⟨[],[some 0],_,_,_,_,hf,t3,cw ?_⟩;exact⟨[],[some 0],_,_,_,t3,rfl,rfl,rfl⟩
  ·have hm:¬iy b>m:=by have hm:¬m<((iy b).toNat:Int):=hm
                       omega
   rw[if_neg hm];refine wh ?_;refine⟨[],[some 0],_,_,_,_,abE s' (iy b).toNat om,t3,cw ?_⟩;exact⟨[],[some 0],_,_,_,t3,rfl,rfl,rfl⟩
def Nz (x:cW):cW×fw:=
 let p1:=x.get 1
 let p2:=p1.1.get 8
 let p3:=p2.1.get 8
 let p4:=p3.1.get 1
 let p5:=p4.1.get 8
 (p5.1,⟨IntKind.i64.wrap p1.2,p2.2,p3.2,IntKind.i64.wrap p4.2,p5.2⟩)
structure Vq where
 (x:cW) (t:gg) (last:Int) (ok:Bool)
def rdStep (q:Vq):Vq:=
 let p:=Nz q.x
 if q.ok=true∧q.last<p.2.ao then⟨p.1,KX q.t p.2,p.2.ao,decide (Cm q.t p.2=0)⟩else⟨p.1,q.t,p.2.ao,false⟩
def vg (q:Vq):Nat→Vq
 |0=>q
 |n+1=>rdStep (vg q n)
@[reducible] def ig (x:cW):Prop:=∀b∈x.b,0≤b∧b<256
theorem de {x:cW} {w:Nat} (h:ig x):ig (x.get w).1:=cW.pG h
theorem Jm {x:cW} (h:ig x):ig (Nz x).1:=de (de (de (de (de h))))
theorem Uu (q:Vq):(rdStep q).x=(Nz q.x).1:=by unfold rdStep;dsimp only;split<;>rfl
theorem xA {q:Vq} (h:ig q.x):∀n,ig (vg q n).x
 |0=>h
 |n+1=>by rw[vg,Uu];exact Jm (xA h n)
@[reducible] def rd0 (x:cW):Vq:=⟨(x.upto 1 6).1,iF,0,true⟩
@[reducible] def ma (x:cW):Vq:=vg (rd0 x) ((x.upto 1 6).2).toNat
def Zg (x:cW):Int:=if(ma x).x.e≠0 then(ma x).x.e else if(ma x).ok=true then 0 else 4
@[reducible] def afX (q:Vq):Ob:=[(0,CA q.x),(1,xf q.t)]
theorem Uv (x:cW) (hb:ig x):VC E0 154 1 [.ptr 0 0] [(0,CA x)] (if Zg x=0 then RR (.cB [.ptr 1 0,.s (.int .i64 0)]) 2 (afX (ma x))else RR (.cB [FU,.s (.int .i64 (Zg x))]) 1 [(0,CA (ma x).x)]):=by
 have zq:=Gj x 1 6 (by decide) (by decide) hb;have hr:=cW.uE (s:=x) (n:=1) (m:=6);have hle:=cW.Nm (s:=x) (n:=1) (m:=6) (by decide);have OM:=xA (q:=rd0 x) (cW.pG hb);have hC:Zg x=if(ma x).x.e≠0 then(ma x).x.e else if(ma x).ok=true then 0 else 4:=rfl
 generalize Zg x=code at hC;generalize hA:ma x=A at hC;have hA:vg (rd0 x) ((x.upto 1 6).2).toNat=A:=hA;generalize hq:rd0 x=q0 at hA OM;have hq1:q0=⟨(x.upto 1 6).1,iF,0,true⟩:=hq.symm;clear hq;generalize x.upto 1 6=y at zq hr hle hA hq1;obtain⟨x1,m⟩:=y;dsimp only at hr hle hA hq1;obtain⟨n,rfl⟩:∃n:Nat,m=n:=⟨m.toNat,om⟩;rw[Int.toNat_natCast]at hA;refine en L0 Tryz.f154 ?_;refine⟨[],[some 0],_,_,_,_,zq,t3,cw ?_⟩;refine⟨[],[],_,_,_,_,Nd,t3,cw ?_⟩
 refine⟨fun k f o c=>∃(i:Nat) (q:Vq),vg q0 i=q∧i≤n∧k=n - i∧c=2∧f=[(0,.ptr 0 0),(5,.ptr 1 0),(6,.s (.int .i64 q.last)),(7,.s (.bool q.ok)),(13,.s (.int .u64 n)),(14,.s (.int .u64 i))]∧o=afX q,⟨n,?_⟩,?_⟩
 ·exact⟨[],[some 0,some 2],_,_,_,t3,⟨0,⟨x1,iF,0,true⟩,hq1,Nat.zero_le _,rfl,rfl,rfl,rfl⟩⟩
 ·rintro k f1 o1 c1 ⟨i,q,hq,hi,rfl,rfl,rfl,rfl⟩;refine wh ?_;refine sp ?_ ?_<;>intro h
  ·have h:i<n:=Int.ofNat_lt.1 h;have bz:vg q0 (i+1)=rdStep q:=by rw[←hq];rfl
   have XY:=OM i;rw[hq]at XY;have hw:IntKind.u64.wrap ((i:Int)+1)=((i+1:Nat):Int):=by rw[IntWalk.u64_in _ om];omega
   clear hq;obtain⟨y,t,last,ok⟩:=q;have g1:=pL y 1 (by decide) (by decide) XY;have b1:=de (w:=1) XY;have g2:=pL _ 8 (by decide) (by decide) b1;have b2:=de (w:=8) b1;have g3:=pL _ 8 (by decide) (by decide) b2;have b3:=de (w:=8) b2;have g4:=pL _ 1 (by decide) (by decide) b3;have b4:=de (w:=1) b3;have g5:=pL _ 8 (by decide) (by decide) b4;unfold rdStep Nz at bz;dsimp only at bz XY b1 b2 b3 b4 g1 g2 g3 g4 g5;generalize y.get 1=p1 at bz g1 g2 g3 g4 g5;generalize p1.1.get 8=p2 at bz g2 g3 g4 g5;generalize p2.1.get 8=p3 at bz g3 g4 g5;generalize p3.1.get 1=p4 at bz g4 g5
   generalize p4.1.get 8=p5 at bz g5;have ft:=vT t ⟨IntKind.i64.wrap p1.2,p2.2,p3.2,IntKind.i64.wrap p4.2,p5.2⟩;generalize KX t ⟨IntKind.i64.wrap p1.2,p2.2,p3.2,IntKind.i64.wrap p4.2,p5.2⟩=t' at bz ft;generalize Cm t ⟨IntKind.i64.wrap p1.2,p2.2,p3.2,IntKind.i64.wrap p4.2,p5.2⟩=c' at bz ft;refine wh ?_;refine⟨[],[some 0],_,_,_,_,g1,t3,cw ?_⟩;refine⟨[],[some 0],_,_,_,_,g2,t3,cw ?_⟩;refine⟨[],[some 0],_,_,_,_,g3,t3,cw ?_⟩;refine⟨[],[some 0],_,_,_,_,g4,t3,cw ?_⟩;refine⟨[],[some 0],_,_,_,_,g5,t3,cw ?_⟩;cases ok
   ·rw[if_neg (by simp)]at bz;refine wh ?_;rw[hw];refine⟨n - (i+1),?_,om⟩;exact⟨[],[some 0,some 1],_,_,_,t3,⟨i+1,_,bz,h,rfl,rfl,rfl,rfl⟩⟩
   ·refine wh ?_;refine sp ?_ ?_<;>intro hg
    ·have hg:last<IntKind.i64.wrap p1.2:=hg;rw[if_pos ⟨rfl,hg⟩]at bz;refine wh ?_;refine⟨[],[some 1],_,_,_,_,ft,t3,cw ?_⟩;refine sp ?_ ?_<;>intro hz
     ·have hz:c'=0:=hz;rw[decide_eq_true hz]at bz;refine wh ?_;rw[hw];refine⟨n - (i+1),?_,om⟩;exact⟨[],[some 0,some 1],_,_,_,t3,⟨i+1,_,bz,h,rfl,rfl,rfl,rfl⟩⟩
     ·have hz:¬c'=0:=hz;rw[decide_eq_false hz]at bz;refine wh ?_;rw[hw];refine⟨n - (i+1),?_,om⟩;exact⟨[],[some 0,some 1],_,_,_,t3,⟨i+1,_,bz,h,rfl,rfl,rfl,rfl⟩⟩
    ·have hg:¬last<IntKind.i64.wrap p1.2:=hg;rw[if_neg (fun q=>hg q.2)]at bz;refine wh ?_;rw[hw];refine⟨n - (i+1),?_,om⟩;exact⟨[],[some 0,some 1],_,_,_,t3,⟨i+1,_,bz,h,rfl,rfl,rfl,rfl⟩⟩
  ·obtain rfl:i=n:=by have h:¬(i:Int)<n:=h;omega
   rw[hq]at hA;subst hA;obtain⟨y,t,last,ok⟩:=q;dsimp only at hC;refine wh ?_;refine⟨[],[some 0],_,_,_,_,Gf y,t3,cw ?_⟩;refine sp ?_ ?_<;>intro he
   ·have he:y.e≠0:=he;rw[if_pos he]at hC;refine wh ?_;rw[hC,if_neg he];exact⟨[],[some 0],_,_,_,t3,rfl,rfl,rfl⟩
   ·have he:¬y.e≠0:=he;rw[if_neg he]at hC;cases ok
    ·rw[if_neg (by simp)]at hC;subst hC;refine wh ?_;rw[if_neg (by decide)];exact⟨[],[some 0],_,_,_,t3,rfl,rfl,rfl⟩
    ·rw[if_pos rfl]at hC;subst hC;refine wh ?_;rw[if_pos rfl];exact⟨[],[some 0,some 1],_,_,_,t3,rfl,rfl,rfl⟩
structure Qx where
 (x:cW) (s:e7) (last:Int) (ok:Bool)
def vY (x:cW):cW×Int×Vs:=
 let p1:=x.get 4
 let p2:=p1.1.get 8
 let p3:=p2.1.get 8
 let p4:=p3.1.text 2048
 (p4.1,IntKind.i64.wrap p1.2,⟨p2.2,p3.2,p4.2⟩)
def uK (q:Qx):Qx:=
 let p:=vY q.x
 if q.ok=true∧q.last<p.2.1∧p.2.2.seq≤q.s.e then⟨p.1,Iu q.s (IntKind.u32.wrap p.2.1) p.2.2,p.2.1,decide (qU (yW q.s (IntKind.u32.wrap p.2.1)) p.2.2=0)⟩
 else⟨p.1,q.s,p.2.1,false⟩
def Qy (q:Qx):Nat→Qx
 |0=>q
 |n+1=>uK (Qy q n)
theorem cW.Uw {x:cW} {w:Nat} (h:x.e≠0):x.next w=(x,none):=by unfold cW.next;rw[if_pos h]
theorem cW.Ux {x:cW} {w:Nat} (h:x.e≠0):(x.get w).1=x:=by unfold cW.get cW.upto;rw[cW.Uw h]
theorem cW.abF {x:cW} {m:Int} (h:x.e≠0):(x.text m).1=x:=by unfold cW.text;rw[cW.Uw h]
theorem XZ {x:cW} (h:x.e≠0):(vY x).1=x:=by
 unfold vY;dsimp only
 rw[cW.Ux h,cW.Ux h,cW.Ux h,cW.abF h]
theorem BC (q:Qx):(uK q).x=(vY q.x).1:=by unfold uK;dsimp only;split<;>rfl
theorem afY {q:Qx} {i n:Nat} (h:(Qy q i).x.e≠0) (hn:i≤n):(Qy q n).x=(Qy q i).x:=by
 induction n with
 |zero=>obtain rfl:i=0:=by omega
        rfl
 |succ n ih=>
  rcases Nat.eq_or_lt_of_le hn with rfl |hn
  ·rfl
  ·have:=ih om;rw[Qy,BC,XZ (by rw[this];exact h),this]
theorem cW.LL {x:cW} {m:Int} (h:ig x):ig (x.text m).1:=by
 have hb:=(cW.l8 (n:=2) h).1;unfold cW.text;generalize x.next 2=q at hb;obtain⟨y,r⟩:=q;cases r with
 |none=>exact hb
 |some b=>
  dsimp only
  split
  ·intro z hz;simp at hz
  ·exact(cW.l8 (n:=(iy b).toNat) hb).1
theorem cW.Uy {x:cW} {m:Int} (hm:0≤m):((x.text m).2.length:Int)≤m:=by
 unfold cW.text;generalize x.next 2=q;obtain⟨y,r⟩:=q;cases r with
 |none=>exact hm
 |some b=>
  dsimp only
  split
  ·exact hm
  ·rename_i h;unfold cW.raw;have hl:=fun l=>cW.vV (s:=y) (n:=(iy b).toNat) (l:=l);have hr:=l7 b;generalize y.next (iy b).toNat=p at hl;obtain⟨z,o⟩:=p;cases o with
   |none=>exact hm
   |some l=>have:=hl l rfl;show(l.length:Int)≤m;omega
theorem NA {x:cW} {w:Nat}:0≤(x.get w).2∧(x.get w).2≤18446744073709551615:=by
 have:=cW.uE (s:=x) (n:=w) (m:=18446744073709551615);unfold cW.get;omega
theorem Jn (x:cW):Pg (vY x).2.2:=⟨NA,NA,by
 have:=cW.Uy (x:=(((x.get 4).1.get 8).1.get 8).1) (m:=2048) (by decide);show(cW.text (((x.get 4).1.get 8).1.get 8).1 2048).2.length≤2048;omega⟩
theorem Jo {x:cW} (h:ig x):ig (vY x).1:=cW.LL (de (de (de h)))
theorem D3 {q:Qx} (h:ig q.x):∀n,ig (Qy q n).x
 |0=>h
 |n+1=>by rw[Qy,BC];exact Jo (D3 h n)
def CB (s:e7) (n:Nat):Prop:=∀k vs,eS s.bs k=some vs→(∀v∈vs,Pg v)∧vs.length≤n
theorem CB.ok {s:e7} {n:Nat} (h:CB s n) (hn:n<1000):zr s:=⟨fun k vs hk=>⟨(h k vs hk).1,by have:=(h k vs hk).2;omega⟩⟩
theorem CB.put {s:e7} {n:Nat} (h:CB s n) (k:Int) {v:Vs} (hv:Pg v):CB (Iu s k v) (n+1):=by
 have hof:(∀w∈yW s k,Pg w)∧(yW s k).length≤n:=by
  cases hk:eS s.bs k with
  |none=>rw[re hk];exact⟨by simp,Nat.zero_le _⟩
  |some vs=>rw[rk hk];exact h k vs hk
 intro k' vs hk;have hk:eS (qT s.bs k (p8 (yW s k) v)) k'=some vs:=hk;rw[wZ]at hk;split at hk
 ·cases hk;unfold p8;split
  ·refine⟨fun w m=>?_,by rw[List.length_append];simp;exact hof.2⟩;rcases List.mem_append.1 m with m|m
   ·exact hof.1 w m
   ·simp at m;rw[m];exact hv
  ·exact⟨hof.1,om⟩
 ·exact⟨(h k' vs hk).1,by have:=(h k' vs hk).2;omega⟩
theorem CB.step {q:Qx} {n:Nat} (h:CB q.s n):CB (uK q).s (n+1):=by
 unfold uK;dsimp only
 split
 ·exact h.put _ (Jn q.x)
 ·exact fun k vs hk=>⟨(h k vs hk).1,by have:=(h k vs hk).2;omega⟩
@[reducible] def yZ (b:List Int):cW:=((cW.mk b 0).get 8).1
@[reducible] def Jp (b:List Int):e7:=⟨((cW.mk b 0).get 8).2,[],(ma (yZ b)).t⟩
@[reducible] def CC (b:List Int):cW×Int:=(ma (yZ b)).x.upto 2 192
@[reducible] def ld0 (b:List Int):Qx:=⟨(CC b).1,Jp b,-1,Ny (Jp b)⟩
@[reducible] def GG (b:List Int):Qx:=Qy (ld0 b) (CC b).2.toNat
def tI (b:List Int):Int:=if Zg (yZ b)≠0 then Zg (yZ b)else if(GG b).x.done≠0 then(GG b).x.done else if(GG b).ok=true then 0 else 4
@[reducible] def ajO (q:Qx):Ob:=[(0,Xd q.s),(1,vU q.s.bs),(2,CA q.x)]
theorem X0 (b:List Int) (hl:b.length<1000000) (hb:∀x∈b,0≤x∧x<256):VC E0 108 0 [.sl 1 (bm b) false] [] (if tI b=0 then RR (.cB [.ptr 0 0,.s (.int .i64 0)]) 2 (sK (GG b).s)else RR (.cB [FU,.s (.int .i64 (tI b))]) 0 []):=by
 have h0:=afW b hl;have zH:ig ⟨b,0⟩:=hb;have h1:=pL ⟨b,0⟩ 8 (by decide) (by decide) zH;have rW:ig (yZ b):=de zH;have h2:=Uv (yZ b) rW;have uO:ig (ma (yZ b)).x:=xA (cW.pG rW) _;have h3:=Gj (ma (yZ b)).x 2 192 (by decide) (by decide) uO;have hf:=XW (Jp b);refine en L0 Tryz.f108 ?_;refine⟨[],[],_,_,_,_,h0,t3,cw ?_⟩;refine⟨[],[],_,_,_,_,Nh,t3,cw ?_⟩;refine⟨[],[some 0],_,_,_,_,h1,t3,cw ?_⟩;by_cases hc:Zg (yZ b)=0
 ·rw[if_pos hc]at h2;have hr:=cW.uE (s:=(ma (yZ b)).x) (n:=2) (m:=192);have hle:=cW.Nm (s:=(ma (yZ b)).x) (n:=2) (m:=192) (by decide);have hC:tI b=if(GG b).x.done≠0 then(GG b).x.done else if(GG b).ok=true then 0 else 4:=by unfold tI;rw[if_neg (not_not_intro hc)]
  have hA:Qy (ld0 b) (CC b).2.toNat=GG b:=rfl;have OM:=D3 (q:=ld0 b) (cW.pG uO);have ajP:CB (Jp b) 0:=fun k vs h=>by cases h
  have hq0:ld0 b=⟨(CC b).1,Jp b,-1,Ny (Jp b)⟩:=rfl;generalize tI b=code at hC;generalize GG b=A at hC hA;generalize ld0 b=q0 at hq0 hA OM;refine⟨[],[some 0],_,_,_,_,h2,t3,cw ?_⟩;refine sp ?_ ?_<;>intro e0
  ·exact absurd rfl e0
  refine wh ?_;refine⟨[],[some 1,some 2],_,_,_,_,hf,t3,cw ?_⟩;refine⟨[],[some 0],_,_,_,_,h3,t3,cw ?_⟩;obtain⟨n,hn⟩:∃n:Nat,(CC b).2=n:=⟨(CC b).2.toNat,by show _=(((CC b).2.toNat:Nat):Int);have h:0≤(CC b).2:=hr.1;omega⟩;have hle:(CC b).2≤192:=hle;rw[hn]at hle hA;rw[Int.toNat_natCast]at hA;refine⟨fun k f o c=>∃(i:Nat) (q:Qx),Qy q0 i=q∧CB q.s i∧i≤n∧k=n - i∧c=3∧f=[(4,.ptr 2 0),(5,.ptr 0 0),(8,.s (.bool q.ok)),(9,.s (.int .i64 q.last)),(36,.s (.int .u64 n)),(37,.s (.int .u64 i))]∧o=ajO q,⟨n,?_⟩,?_⟩
  ·refine⟨[],[some 1,some 2,some 0],?_⟩
   iterate 3 constructor
   refine⟨⟨?_,?_,?_⟩,⟨0,⟨(CC b).1,Jp b,-1,Ny (Jp b)⟩,hq0,ajP,Nat.zero_le _,rfl,rfl,rfl,rfl⟩⟩
   all_goals(repeat' first|exact LF|constructor)
   all_goals exact Lz.int hn
  ·rintro k f1 o1 c1 ⟨i,q,hq,k9,hi,rfl,rfl,rfl,rfl⟩;refine wh ?_;refine sp ?_ ?_<;>intro h
   ·have h:i<n:=Int.ofNat_lt.1 h;have bz:Qy q0 (i+1)=uK q:=by rw[←hq];rfl
    have hx:(Qy q0 (i+1)).x=(vY q.x).1:=by rw[bz,BC]
    have XY:=OM i;rw[hq]at XY;have hw:IntKind.u64.wrap ((i:Int)+1)=((i+1:Nat):Int):=by rw[IntWalk.u64_in _ om];omega
    have pM:=k9.step;have Mb:=k9.ok om;clear hq;obtain⟨y,s,last,ok⟩:=q;have hv:=Jn y;have g1:=pL y 4 (by decide) (by decide) XY;have b1:=de (w:=4) XY;have g2:=pL _ 8 (by decide) (by decide) b1;have b2:=de (w:=8) b1;have g3:=pL _ 8 (by decide) (by decide) b2;have b3:=de (w:=8) b2;have g4:=XX _ 2048 b3;unfold uK vY at bz pM;unfold vY at hv hx;dsimp only at bz hx k9 pM XY b1 b2 b3 g1 g2 g3 g4 Mb hv;generalize y.get 4=p1 at bz hx pM g1 g2 g3 g4 hv;generalize p1.1.get 8=p2 at bz hx pM g2 g3 g4 hv;generalize p2.1.get 8=p3 at bz hx pM g3 g4 hv;generalize p3.1.text 2048=p4 at bz hx pM g4 hv
    have Kr:=FV s (IntKind.u32.wrap (IntKind.i64.wrap p1.2)) ⟨p2.2,p3.2,p4.2⟩ hv.ey Mb;generalize Iu s (IntKind.u32.wrap (IntKind.i64.wrap p1.2)) ⟨p2.2,p3.2,p4.2⟩=s' at bz pM Kr;generalize qU (yW s (IntKind.u32.wrap (IntKind.i64.wrap p1.2))) ⟨p2.2,p3.2,p4.2⟩=c' at bz pM Kr;refine wh ?_;refine⟨[],[some 2],_,_,_,_,g1,t3,cw ?_⟩;refine⟨[],[some 2],_,_,_,_,g2,t3,cw ?_⟩;refine⟨[],[some 2],_,_,_,_,g3,t3,cw ?_⟩;refine⟨[],[some 2],_,_,_,_,g4,t3,cw ?_⟩;refine⟨[],[some 2],_,_,_,_,Gf p4.1,t3,cw ?_⟩;refine sp ?_ ?_<;>intro he
    ·have he:p4.1.e≠0:=he;have hAx:A.x=p4.1:=by rw[←hA,afY (i:=i+1) (n:=n) (by rw[hx];exact he) h,hx]
     have hd:A.x.done=p4.1.e:=by rw[hAx];unfold cW.done;rw[if_pos he]
     rw[hd,if_pos he]at hC;subst hC;refine wh ?_;refine⟨[],[some 2],_,_,_,_,Gf p4.1,t3,cw ?_⟩;rw[if_neg he];exact⟨[],[],_,_,_,t3,rfl,rfl,rfl⟩
    ·refine wh ?_;cases ok
     ·rw[if_neg (by simp)]at bz pM;refine wh ?_;rw[hw];refine⟨n - (i+1),?_,om⟩;exact⟨[],[some 0,some 1,some 2],_,_,_,t3,⟨i+1,_,bz,pM,h,rfl,rfl,rfl,rfl⟩⟩
     ·refine wh ?_;refine sp ?_ ?_<;>intro hk
      ·have hk:last<IntKind.i64.wrap p1.2:=hk;refine wh ?_;refine sp ?_ ?_<;>intro hs
       ·have hs:p3.2≤s.e:=hs;rw[if_pos ⟨rfl,hk,hs⟩]at bz pM;refine wh ?_;refine⟨[],[some 0,some 1],_,_,_,_,Kr,t3,cw ?_⟩;refine sp ?_ ?_<;>intro hz
        ·have hz:c'=0:=hz;rw[decide_eq_true hz]at bz pM;refine wh ?_;rw[hw];refine⟨n - (i+1),?_,om⟩;exact⟨[],[some 0,some 1,some 2],_,_,_,t3,⟨i+1,_,bz,pM,h,rfl,rfl,rfl,rfl⟩⟩
        ·have hz:¬c'=0:=hz;rw[decide_eq_false hz]at bz pM;refine wh ?_;rw[hw];refine⟨n - (i+1),?_,om⟩;exact⟨[],[some 0,some 1,some 2],_,_,_,t3,⟨i+1,_,bz,pM,h,rfl,rfl,rfl,rfl⟩⟩
       ·have hs:¬p3.2≤s.e:=hs;rw[if_neg (fun q=>hs q.2.2)]at bz pM;refine wh ?_;rw[hw];refine⟨n - (i+1),?_,om⟩;exact⟨[],[some 0,some 1,some 2],_,_,_,t3,⟨i+1,_,bz,pM,h,rfl,rfl,rfl,rfl⟩⟩
      ·have hk:¬last<IntKind.i64.wrap p1.2:=hk;rw[if_neg (fun q=>hk q.2.1)]at bz pM;refine wh ?_;rw[hw];refine⟨n - (i+1),?_,om⟩;exact⟨[],[some 0,some 1,some 2],_,_,_,t3,⟨i+1,_,bz,pM,h,rfl,rfl,rfl,rfl⟩⟩
   ·obtain rfl:i=n:=by have h:¬(i:Int)<n:=h;omega
    rw[hq]at hA;subst hA;obtain⟨y,s,last,ok⟩:=q;dsimp only at hC;refine wh ?_;refine⟨[],[some 2],_,_,_,_,Ut y,t3,cw ?_⟩;refine sp ?_ ?_<;>intro he
    ·have he:y.done≠0:=he;rw[if_pos he]at hC;subst hC;refine wh ?_;rw[if_neg he];exact⟨[],[],_,_,_,t3,rfl,rfl,rfl⟩
    ·have he:¬y.done≠0:=he;rw[if_neg he]at hC;cases ok
     ·rw[if_neg (by simp)]at hC;subst hC;refine wh ?_;rw[if_neg (by decide)];exact⟨[],[],_,_,_,t3,rfl,rfl,rfl⟩
     ·rw[if_pos rfl]at hC;subst hC;refine wh ?_;rw[if_pos rfl];exact⟨[],[some 0,some 1],_,_,_,t3,rfl,rfl,rfl⟩
 ·rw[if_neg hc]at h2;rw[show tI b=Zg (yZ b)from if_pos hc,if_neg hc];refine⟨[],[some 0],_,_,_,_,h2,t3,cw ?_⟩;refine sp ?_ ?_<;>intro e0
  ·refine wh ?_;exact⟨[],[],_,_,_,t3,rfl,rfl,rfl⟩
  ·exact absurd hc e0
@[reducible] def uL (s:Int):MvI:=⟨s,0,0,[]⟩
theorem Uz (x:MvI) (s:Int):VC E0 151 1 [.ptr 0 0,.s (.int .u64 s)] [(0,Vn x)] (RR (.cB []) 1 [(0,Vn (uL s))]):=by
 refine en L0 Tryz.f151 ?_;exact⟨[],[some 0],_,_,_,t3,rfl,rfl,rfl⟩
theorem D4 (a p n s:Int) (k:List Int):VC E0 151 1 [.ptr 0 0,.s (.int .u64 s)] [(0,.cells [.s (.int .u64 a),.s (.int .i64 p),.s (.int .i64 n),GC k])] (RR (.cB []) 1 [(0,Vn (uL s))]):=by
 refine en L0 Tryz.f151 ?_;exact⟨[],[some 0],_,_,_,t3,rfl,rfl,rfl⟩
theorem P2 (a p s:Int) (d:List Int) (ha:a≤s) (hd:d.length≤1024):VC E0 107 1 [.ptr 0 0,.s (.int .u64 s),.s (.int .i64 0),.s (.int .i64 1),GC d] [(0,Vn ⟨a,p,0,[]⟩)] (RR (.cB [GC d,.s (.bool true)]) 1 [(0,Vn (uL s))]):=by
 refine en L0 Tryz.f107 ?_
 ((first|(refine⟨fun h_=>?_,fun h_=>?_⟩)|(refine aU (fun h_=>?_) (fun h_=>?_))|(refine aT (fun h_=>?_) (fun h_=>?_)))<;>first|(exfalso;revert h_;decide;done)|(exact absurd rfl h_)|(have dw:=True.intro;clear dw;(conv=>whnf)))
 ((first|(refine⟨fun h_=>?_,fun h_=>?_⟩)|(refine aU (fun h_=>?_) (fun h_=>?_))|(refine aT (fun h_=>?_) (fun h_=>?_)))<;>first|(exfalso;revert h_;decide;done)|(exact absurd rfl h_)|(have dw:=True.intro;clear dw;(conv=>whnf)))
 ((first|(refine⟨fun h_=>?_,fun h_=>?_⟩)|(refine aU (fun h_=>?_) (fun h_=>?_))|(refine aT (fun h_=>?_) (fun h_=>?_)))<;>first|(exfalso;revert h_;decide;done)|(exact absurd rfl h_)|(have dw:=True.intro;clear dw;(conv=>whnf)))
 refine sp ?_ ?_<;>intro h1
 ·exact absurd (show((bm d).length:Int)>1024 from h1) (by simp[bm];omega)
 refine wh ?_;refine sp ?_ ?_<;>intro h2
 ·exact absurd (show s<a from h2) om
 refine wh ?_;refine sp ?_ ?_<;>intro h3
 ·refine wh ?_;refine⟨[],[some 0],_,_,_,_,Uz ⟨a,p,0,[]⟩ s,t3,cw ?_⟩;refine sp ?_ ?_<;>intro h5
  ·exact absurd rfl h5
  refine wh ?_;refine⟨by simp[bm];omega,?_⟩;refine wh ?_;refine sp ?_ ?_<;>intro h6
  ·exact absurd (show(1:Int)<1 from h6) (by decide)
  refine wh ?_;refine⟨[3],[some 0],_,_,_,_,D4 s 1 (IntKind.i64.wrap ((0:Int)+1)) s d,t3,cw ?_⟩;exact⟨[3],[some 0],_,_,_,t3,rfl,rfl,rfl⟩
 ·have h3:¬s>a:=h3;obtain rfl:s=a:=by omega
  refine wh ?_;refine sp ?_ ?_<;>intro h4
  ·exact absurd (show(0:Int)>0 from h4) (by decide)
  refine wh ?_;refine sp ?_ ?_<;>intro h5
  ·exact absurd rfl h5
  refine wh ?_;refine⟨by simp[bm];omega,?_⟩;refine wh ?_;refine sp ?_ ?_<;>intro h6
  ·exact absurd (show(1:Int)<1 from h6) (by decide)
  refine wh ?_;refine⟨[2],[some 0],_,_,_,_,D4 s 1 (IntKind.i64.wrap ((0:Int)+1)) s d,t3,cw ?_⟩;exact⟨[2],[some 0],_,_,_,t3,rfl,rfl,rfl⟩
theorem UA (b:List Int) (hl:b.length<1000000) (hb:∀x∈b,0≤x∧x<256) (h:tI b=0):VC E0 108 0 [GC b] [] (RR (.cB [.ptr 0 0,.s (.int .i64 0)]) 1 (Np (GG b).s)):=by
 have mL:=X0 b hl hb;rw[if_pos h]at mL;refine VC.told (R:=RR (.cB [.ptr 0 0,.s (.int .i64 0)]) 2 (sK (GG b).s)) mL ?_;rintro r o' c' ⟨rfl,rfl,rfl⟩;exact⟨[],[some 0],_,_,_,t3,rfl,rfl,rfl⟩
def pW (x:RS) (s:Int) (d:List Int):RS:=if au x.an<s then {x with comes:=uL s,st:=(GG d).s,an:=⟨s,s,[]⟩}else {x with comes:=uL s}
theorem UB (x:RS) (f t ch e s:Int) (d:List Int) (H:nN x.an) (hn:x.comes.next=0) (hb:x.comes.b=[]) (ha:x.comes.at_≤s) (hd:d.length≤1024) (hx:∀y∈d,0≤y∧y<256) (hl:tI d=0) (he:(GG d).s.e=s):
 VC E0 65 1 [.ptr 0 0,.agg (bp (uB f t ch e 1 s 0 d))] (iz x) (RR (.cB []) 1 (iz (pW x s d))):=by
 have bW:=bX x.an H;have ZG:=UA d om hx hl;have Qt:=I9 (GG d).s;rw[he]at Qt;have hlp:pW x s d=(if au x.an<s then {x with comes:=uL s,st:=(GG d).s,an:=⟨s,s,[]⟩}else {x with comes:=uL s}):=rfl;generalize pW x s d=y at hlp ⊢;generalize (GG d).s=st2 at ZG Qt hlp;obtain⟨node,ak,role,st,an,base,dq,bu,known,want,⟨a,p,nx,bb⟩,out⟩:=x;have hn:nx=0:=hn;have hb:bb=[]:=hb;subst hn hb;have Gv:=P2 a p s d ha hd;refine en L0 Tryz.f65 ?_;rw[show IntKind.i64.wrap (uB f t ch e 1 s 0 d).num=1 from rfl];refine⟨[],[some 2],_,_,_,_,Gv,t3,cw ?_⟩;refine⟨[],[],_,_,_,_,ZG,t3,cw ?_⟩
 ((first|(refine⟨fun h_=>?_,fun h_=>?_⟩)|(refine aU (fun h_=>?_) (fun h_=>?_))|(refine aT (fun h_=>?_) (fun h_=>?_)))<;>first|(exfalso;revert h_;decide;done)|(exact absurd rfl h_)|(have dw:=True.intro;clear dw;(conv=>whnf)))
 refine⟨[],[some 4],_,_,_,_,Qt,t3,cw ?_⟩;refine sp ?_ ?_<;>intro q1;rotate_left
 ·exact absurd rfl q1
 refine wh ?_;refine⟨[],[some 4],_,_,_,_,Qt,t3,cw ?_⟩;refine⟨[],[some 7],_,_,_,_,bW,t3,cw ?_⟩;refine sp ?_ ?_<;>intro q2
 ·have q2:au an<s:=q2;rw[if_pos q2]at hlp;subst hlp;refine wh ?_;refine⟨[],[some 4],_,_,_,_,Qt,t3,cw ?_⟩;refine⟨[],[],_,_,_,_,FW s,t3,cw ?_⟩;exact⟨[],[some 0],_,_,_,t3,rfl,rfl,rfl⟩
 ·have q2:¬au an<s:=q2;rw[if_neg q2]at hlp;subst hlp;refine wh ?_;exact⟨[],[some 0],_,_,_,t3,rfl,rfl,rfl⟩
theorem UC (x:RS) (f t ch e s:Int) (d:List Int) (H:nN x.an) (P3:x.out.length<100000) (ho:x.dq=false) (hn:x.comes.next=0) (hb:x.comes.b=[]) (ha:x.comes.at_≤s) (hs:0≤s∧s≤40000) (hd:d.length≤1024) (hx:∀y∈d,0≤y∧y<256) (hl:tI d=0) (he:(GG d).s.e=s):
 VC E0 29 1 [.ptr 0 0,.agg (bp (uB f t ch e 1 s 0 d))] (iz x) (RR (.cB []) 1 (iz (jo (pW x s d)))):=by
 have ZG:=UB x f t ch e s d H hn hb ha hd hx hl he;have hw:nN (pW x s d).an∧(pW x s d).out=x.out:=by
  unfold pW;split
  ·exact⟨⟨by show 0≤s∧s≤50000;omega,by show 0≤s∧s≤50000;omega,by show(0:Nat)≤10000;decide,fun u hu=>by cases hu⟩,rfl⟩
  ·exact⟨H,rfl⟩
 have fT:=pH (pW x s d) (by rw[hw.2];exact P3) hw.1;generalize pW x s d=y at ZG fT ⊢;obtain⟨node,ak,role,st,an,base,dq,bu,known,want,comes,out⟩:=x;have ho:dq=false:=ho;subst ho;refine en L0 Tryz.f29 ?_;refine⟨[],[some 0],_,_,_,_,ZG,t3,cw ?_⟩;refine⟨[],[some 0],_,_,_,_,fT,t3,cw ?_⟩;exact⟨[],[some 0],_,_,_,t3,rfl,rfl,rfl⟩
theorem BD:VC E0 50 0 [] [] (RR (.ptr 0 0) 1 [(0,Vn Pb)]):=by
 refine en L0 Tryz.f50 ?_;exact⟨[],[some 0],_,_,_,t3,rfl,rfl,rfl⟩
theorem UD (c:CF) (h:c.aV≠0):VC E0 45 0 [.agg (dm c),.agg FZ] [] (RR (.s (.bool false)) 0 []):=by
 refine en L0 Tryz.f45 ?_;refine sp ?_ ?_<;>intro h1
 ·refine wh ?_;refine sp ?_ ?_<;>intro h2
  ·exact absurd h2 h
  ·refine wh ?_;exact⟨[],[],_,_,_,t3,rfl,rfl,rfl⟩
 ·refine wh ?_;exact⟨[],[],_,_,_,t3,rfl,rfl,rfl⟩
@[reducible] def vZ (x:RS) (c:CF):RS:={x with ak:=c,role:=bh c x.node,base:=au x.an,bu:=0,known:=false,want:=0,comes:=Pb}
theorem UE (x:RS) (c:CF) (H:bV c) (Hw:nN x.an):VC E0 51 1 [.ptr 0 0,.agg (dm c)] (iz x) (RR (.cB []) 1 (iz (vZ x c))):=by
 have hcp:=Pu [c] (by show(1:Nat)<10000;decide) (fun d hd=>by simp at hd;subst hd;have:=H.2.2.1;omega);have B2:=jV c H x.node;have bW:=bX x.an Hw;refine en L0 Tryz.f51 ?_;refine⟨[2],[],_,_,_,_,hcp,t3,cw ?_⟩;refine⟨⟨by decide,by simp⟩,?_⟩;refine wh ?_;refine⟨dm c,rfl,?_⟩;refine wh ?_;refine⟨[],[],_,_,_,_,B2,t3,cw ?_⟩;refine⟨[],[some 4],_,_,_,_,bW,t3,cw ?_⟩;refine⟨[],[],_,_,_,_,BD,t3,cw ?_⟩;exact⟨[],[some 0],_,_,_,t3,rfl,rfl,rfl⟩
theorem X1 (c:CF) (node:Int) (H:bV c) (hn:1≤node∧node≤24) (hf:c.fresh=false) (hi:(bh c node).Bm=true):VC E0 20 0 [.s (.int .i64 node),.agg (dm c)] [] (RR (.cB [.ptr 0 0,.s (.int .i64 0)]) 1 (iz (Bo node c))):=by
 have fq:=UD c (by have:=H.2.1;omega);have Ap:=FP node;rw[decide_eq_true hn]at Ap;have B2:=jV c H node;have hw0:nN ⟨0,0,[]⟩:=⟨⟨by decide,by decide⟩,⟨by decide,by decide⟩,by decide,fun u hu=>by cases hu⟩;have ft:=UE ⟨node,⟨0,0,[],false,0⟩,w9,⟨0,[],iF⟩,⟨0,0,[]⟩,0,false,0,false,0,Pb,[]⟩ c H hw0;obtain⟨r,hr⟩:∃r,r=bh c node:=⟨_,rfl⟩;rw[←hr]at B2 hi;obtain⟨ri,rj,rh,rt,T8,XC,XD,XE⟩:=r;have hi:ri=true:=hi;subst hi;obtain⟨c1,c2,c3,c4,c5⟩:=c;have hf:c4=false:=hf;subst hf;refine en L0 Tryz.f20 ?_;refine⟨[],[],_,_,_,_,fq,t3,cw ?_⟩;refine⟨[],[],_,_,_,_,Ap,t3,cw ?_⟩;refine⟨[],[],_,_,_,_,B2,t3,cw ?_⟩
 refine⟨[],[],_,_,_,_,I8,t3,cw ?_⟩;refine⟨[],[],_,_,_,_,FW 0,t3,cw ?_⟩;refine⟨[],[],_,_,_,_,BD,t3,cw ?_⟩;refine⟨[],[some 4],_,_,_,_,ft,t3,cw ?_⟩;exact⟨[],[some 4],_,_,_,t3,rfl,rfl,rfl⟩
@[reducible] def zJF:CF:=⟨0,0,[],false,0⟩
@[reducible] def X2 (node:Int):RS:=⟨node,zJF,w9,⟨0,[],iF⟩,⟨0,0,[]⟩,0,false,0,false,0,Pb,[]⟩
theorem X3:VC E0 86 0 [.sl 0 [] true,.sl 0 [] true] [] (RR (.s (.bool true)) 0 []):=by
 refine VC.cQ L0 (show E0.func 86=some Tryz.f86 by kernel_rfl) (fun _ _=>rfl) rfl rfl [999999] ?_;refine wh ?_;refine rn ?_;exact⟨[],[],_,_,_,t3,rfl,rfl,rfl⟩
theorem abG:VC E0 45 0 [.agg FZ,.agg FZ] [] (RR (.s (.bool true)) 0 []):=by
 refine en L0 Tryz.f45 ?_
 repeat((first|(refine⟨fun h_=>?_,fun h_=>?_⟩)|(refine aU (fun h_=>?_) (fun h_=>?_))|(refine aT (fun h_=>?_) (fun h_=>?_)))<;>first|(exfalso;revert h_;decide;done)|(exact absurd rfl h_)|(have dw:=True.intro;clear dw;(conv=>whnf)))
 refine⟨[],[],_,_,_,_,X3,t3,cw ?_⟩;exact⟨[],[],_,_,_,t3,rfl,rfl,rfl⟩
theorem UF (node:Int) (hn:1≤node∧node≤24):VC E0 20 0 [.s (.int .i64 node),.agg FZ] [] (RR (.cB [.ptr 0 0,.s (.int .i64 0)]) 1 (iz (X2 node))):=by
 have Ap:=FP node;rw[decide_eq_true hn]at Ap;refine en L0 Tryz.f20 ?_;refine⟨[],[],_,_,_,_,abG,t3,cw ?_⟩;refine⟨[],[],_,_,_,_,Ap,t3,cw ?_⟩;refine⟨[],[],_,_,_,_,I8,t3,cw ?_⟩;refine⟨[],[],_,_,_,_,FW 0,t3,cw ?_⟩;refine⟨[],[],_,_,_,_,BD,t3,cw ?_⟩;exact⟨[],[some 4],_,_,_,t3,rfl,rfl,rfl⟩
theorem UG (a c:CF) (H:bV c) (h1:a.chain=c.chain) (h2:a.aV<c.aV):VC E0 52 0 [.agg (dm a),.agg (dm c)] [] (RR (.s (.bool true)) 0 []):=by
 refine en L0 Tryz.f52 ?_;refine⟨[],[],_,_,_,_,uC c H,t3,cw ?_⟩;refine sp ?_ ?_<;>intro q1;rotate_left
 ·exact absurd h1 q1
 refine wh ?_;refine sp ?_ ?_<;>intro q2;rotate_left
 ·exact absurd h2 q2
 refine wh ?_;exact⟨[],[],_,_,_,t3,rfl,rfl,rfl⟩
def gq (x:RS) (c:CF):RS:=if(bh c x.node).tail=true then cp (vZ x c) (au x.an)else vZ x c
theorem UH (x:RS) (c:CF) (H:bV c) (G:gX (vZ x c)) (h:(x.ak.aV=0∧((bh c x.node).Bm=true∨(bh c x.node).jm=true))∨(x.ak.aV≠0∧x.ak.chain=c.chain∧x.ak.aV<c.aV)):
 VC E0 21 1 [.ptr 0 0,.agg (dm c)] (iz x) (RR (.cB [.tk 1,.s (.bool true)]) 2 [(0,ie (bE (gq x c))),(1,.arr 25 true ((gq x c).out.map bp))]):=by
 have B2:=jV c H x.node;have ft:=UE x c H G.an;have bW:=bX (vZ x c).an G.an;have dM:=G.done (au (vZ x c).an) G.XA;have Jg:=dp (gq x c);have het:gq x c=(if(bh c x.node).tail=true then cp (vZ x c) (au (vZ x c).an)else vZ x c):=rfl;have GB:(vZ x c).role=bh c x.node:=rfl;generalize gq x c=y at Jg het ⊢;generalize hr:bh c x.node=r at B2 h het GB;obtain⟨ri,rj,rh,rt,T8,XC,XD,XE⟩:=r;rcases h with⟨h0,h1⟩|⟨h0,h1,h2⟩
 ·cases ri with
  |true=>
   refine en L0 Tryz.f21 ?_;refine⟨[],[],_,_,_,_,B2,t3,cw ?_⟩;refine sp ?_ ?_<;>intro q0;rotate_left
   ·exact absurd h0 q0
   refine wh ?_;refine⟨[],[some 0],_,_,_,_,ft,t3,cw ?_⟩;generalize hz:vZ x c=z at ft dM bW GB het;obtain⟨tD,kM,jx,Vo,Cv,tF,Cw,Cy,nQ,tG,nR,Cz⟩:=z;have GB:jx=_:=GB;subst GB;cases rt with
   |true=>
    have het:y=_:=het.trans (if_pos rfl);subst het;refine wh ?_;refine⟨[],[some 4],_,_,_,_,bW,t3,cw ?_⟩;refine⟨[],[some 0],_,_,_,_,dM,t3,cw ?_⟩;refine⟨[],[some 0],_,_,_,_,Jg,t3,cw ?_⟩;exact⟨[],[some 0,some 8],_,_,_,t3,rfl,rfl,rfl⟩
   |false=>
    have het:y=_:=het.trans (if_neg Bool.noConfusion);subst het;refine wh ?_;refine⟨[],[some 0],_,_,_,_,Jg,t3,cw ?_⟩;exact⟨[],[some 0,some 5],_,_,_,t3,rfl,rfl,rfl⟩
  |false=>
   have h1:rj=true:=h1.resolve_left Bool.noConfusion;subst h1;refine en L0 Tryz.f21 ?_;refine⟨[],[],_,_,_,_,B2,t3,cw ?_⟩;refine sp ?_ ?_<;>intro q0;rotate_left
   ·exact absurd h0 q0
   refine wh ?_;refine⟨[],[some 0],_,_,_,_,ft,t3,cw ?_⟩;generalize hz:vZ x c=z at ft dM bW GB het;obtain⟨tD,kM,jx,Vo,Cv,tF,Cw,Cy,nQ,tG,nR,Cz⟩:=z;have GB:jx=_:=GB;subst GB;cases rt with
   |true=>
    have het:y=_:=het.trans (if_pos rfl);subst het;refine wh ?_;refine⟨[],[some 4],_,_,_,_,bW,t3,cw ?_⟩;refine⟨[],[some 0],_,_,_,_,dM,t3,cw ?_⟩;refine⟨[],[some 0],_,_,_,_,Jg,t3,cw ?_⟩;exact⟨[],[some 0,some 8],_,_,_,t3,rfl,rfl,rfl⟩
   |false=>
    have het:y=_:=het.trans (if_neg Bool.noConfusion);subst het;refine wh ?_;refine⟨[],[some 0],_,_,_,_,Jg,t3,cw ?_⟩;exact⟨[],[some 0,some 5],_,_,_,t3,rfl,rfl,rfl⟩
 ·have Qs:=UG x.ak c H h1 h2;refine en L0 Tryz.f21 ?_;refine⟨[],[],_,_,_,_,B2,t3,cw ?_⟩;refine sp ?_ ?_<;>intro q0
  ·exact absurd q0 h0
  refine wh ?_;refine sp ?_ ?_<;>intro q1
  ·exact absurd q1 h0
  refine wh ?_;refine⟨[],[],_,_,_,_,Qs,t3,cw ?_⟩;refine⟨[],[some 0],_,_,_,_,ft,t3,cw ?_⟩;generalize hz:vZ x c=z at ft dM bW GB het;obtain⟨tD,kM,jx,Vo,Cv,tF,Cw,Cy,nQ,tG,nR,Cz⟩:=z;have GB:jx=_:=GB;subst GB;cases rt with
  |true=>
   have het:y=_:=het.trans (if_pos rfl);subst het;refine wh ?_;refine⟨[],[some 4],_,_,_,_,bW,t3,cw ?_⟩;refine⟨[],[some 0],_,_,_,_,dM,t3,cw ?_⟩;refine⟨[],[some 0],_,_,_,_,Jg,t3,cw ?_⟩;exact⟨[],[some 0,some 8],_,_,_,t3,rfl,rfl,rfl⟩
  |false=>
   have het:y=_:=het.trans (if_neg Bool.noConfusion);subst het;refine wh ?_;refine⟨[],[some 0],_,_,_,_,Jg,t3,cw ?_⟩;exact⟨[],[some 0,some 5],_,_,_,t3,rfl,rfl,rfl⟩
end Go.M
