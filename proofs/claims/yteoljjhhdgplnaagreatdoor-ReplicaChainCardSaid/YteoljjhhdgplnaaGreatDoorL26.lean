/-
  Part 26 of the library that the proof leans on.
-/
import Derived.Test.YteoljjhhdgplnaaGreatDoorL12
import Derived.Test.YteoljjhhdgplnaaGreatDoorL25
namespace Go.M
open Go Go.Proofs
set_option maxRecDepth 100000
set_option maxHeartbeats 4000000
@[reducible] def fE (x:RS) (us:List bo):RS:=(bt us (aE x.an)).foldl rC x
@[reducible] def nT (x:RS) (us:List bo):RS:=if x.role.tail=true∨x.role.jY=true then cA (fE x us) (aE (fE x us).an)else fE x us
@[reducible] def B4 (x:RS) (d:Int) (us:List bo):RS:=if x.role.tail=true∧x.au.fresh=true∧d≤aE (nT x us).an then {nT x us with df:=true}else nT x us
theorem Es {x:RS} {d:Int} {us:List bo}:pe x d us=(if 0<(bt us (aE x.an)).length∧(gL (B4 x d us)).known=true then cp (gL (B4 x d us))else gL (B4 x d us)):=rfl
theorem Kr (x:RS) (f t ch e s d:Int) (us:List bo) (G:e7 x) (htj:x.role.tail=true→x.role.jY=false) (hl:us.length≤4) (hd:∀u∈us,u.data.length≤2048∧Nr u)
 (sH:∀(i:Nat) (h:i<(bt us (aE x.an)).length),e7 (((bt us (aE x.an)).take i).foldl rC x)∧Er (((bt us (aE x.an)).take i).foldl rC x) (bt us (aE x.an))[i])
 (G1:e7 (fE x us)) (G2:jf (gL (B4 x d us))) (G3:e7 (nT x us)):
 VC E0 28 1 [.ptr 0 0,.agg (ai (rD f t ch e s d us))] (gA x) (RR (.cY []) 1 (gA (pe x d us))):=by
 rw[Es];have dX:=eG x.an G.an;have qA:=pr us (aE x.an);have m6:=Oq us (aE x.an) om hd;have lD:=eG (fE x us).an G1.an;have dT:=G1.done (aE (fE x us).an) G1.Q4;have NL:(B4 x d us).an=(nT x us).an∧(B4 x d us).out=(nT x us).out:=by unfold B4;split<;>exact⟨rfl,rfl⟩
 have gB:=sN (B4 x d us) (by have:=G3.out;rw[NL.2];omega) (by rw[NL.1];exact G3.an);have fY:=eG (nT x us).an G3.an;have bh:=G2.hand;have ql:=sO (bt us (aE x.an)) x;have rB:=(sO (bt us (aE x.an)) x).trans (fV (fE x us) (aE (fE x us).an));refine en L0 Tryz.f28 ?_;refine⟨[],[some 2],_,_,_,_,dX,t3,cw ?_⟩;refine⟨[],[],_,_,_,_,m6,t3,cw ?_⟩;generalize YG:bt us (aE x.an)=l at qA sH ql
 refine⟨fun k f_ o c=>∃i:Nat,i≤l.length∧k=l.length - i∧c=2∧f_=[(0,.ptr 0 0),(3,.ptr 1 0),(16,.sl 7 (l.map b7) false),(17,.s (.int .i64 l.length)),(18,.s (.int .i64 i))]∧o=[(0,kP ((l.take i).foldl rC x)),(1,.cells (ai (rD f t ch e s d l)))],⟨l.length,?_⟩,?_⟩
 ·refine⟨[],[some 0,some 1],_,_,_,tx ?_,⟨0,Nat.zero_le _,rfl,rfl,rfl,rfl⟩⟩;exact Lz.int (by rw[List.length_map])
 rintro k f1 o1 c1 ⟨i,hi,rfl,rfl,rfl,rfl⟩;refine wh ?_;refine sp ?_ ?_<;>intro h
 ·have h:i<l.length:=by have h:(i:Int)<l.length:=h
                        omega
  have EN:IntKind.i64.wrap ((i:Int)+1)=((i+1:Nat):Int):=IntWalk.i64_in _ om;obtain⟨Gi,Ui⟩:=sH i h;have HQ:=Ui.up Gi;have vJ:(l.take (i+1)).foldl rC x=rC ((l.take i).foldl rC x) l[i]:=by rw[g8 l i h,List.foldl_append];rfl
  generalize (l.take i).foldl rC x=y at vJ HQ;refine wh ?_;refine lW h ?_;refine wh ?_;refine⟨[],[some 0],_,_,_,_,HQ,t3,cw ?_⟩;refine⟨l.length - (i+1),?_,om⟩;rw[EN];exact⟨[],[some 0,some 1],_,_,_,t3,⟨i+1,h,rfl,rfl,rfl,congrArg (fun z=>[(0,kP z),(1,.cells (ai (rD f t ch e s d l)))]) vJ.symm⟩⟩
 ·obtain rfl:i=l.length:=by have h:¬(i:Int)<l.length:=h;omega
  rw[List.take_length];have hy:l.foldl rC x=fE x us:=by show _=(bt us (aE x.an)).foldl rC x;rw[YG]
  rw[hy]at ql ⊢
  try rw[YG]
  have rB:=fV (fE x us) (aE (fE x us).an);cases ht:x.role.tail with
  |true=>
   have hj:=htj ht;have e2:nT x us=cA (fE x us) (aE (fE x us).an):=by
    show(if x.role.tail=true∨x.role.jY=true then cA (fE x us) (aE (fE x us).an)else fE x us)=_;rw[ht];exact if_pos (.inl rfl)
   cases hf:x.au.fresh with
   |false=>
    have e3:B4 x d us=nT x us:=if_neg (fun q=>by rw[hf]at q;exact Bool.noConfusion q.2.1);rw[e3,e2]at gB bh;rw[e3,e2];clear fY;generalize gL (cA (fE x us) (aE (fE x us).an))=w at gB bh ⊢;obtain⟨As,At,Au,Wc,Ks,Av,Kt,Ku,jh,Aw,um,Kv⟩:=w;clear sH G1 G2 G3 e2 e3 hy dX m6 NL;generalize fE x us=y at ql lD dT gB bh rB ⊢;have jJ:=ql.role;have j5:=ql.au;rw[←jJ]at hj ht;rw[←j5]at hf;clear ql jJ j5;obtain⟨iH,⟨y9,za,zb,Kw,zc⟩,⟨yi,yj,yh,yt,yw,vK,vL,vM⟩,Ap,ke,iI,nK,nL,fo,iJ,fp,lY⟩:=y;have hj:yj=false:=hj;have hf:Kw=false:=hf;have ht:yt=true:=ht;subst hj hf ht
    generalize cA ⟨iH,⟨y9,za,zb,false,zc⟩,⟨yi,false,yh,true,yw,vK,vL,vM⟩,Ap,ke,iI,nK,nL,fo,iJ,fp,lY⟩ (aE (⟨iH,⟨y9,za,zb,false,zc⟩,⟨yi,false,yh,true,yw,vK,vL,vM⟩,Ap,ke,iI,nK,nL,fo,iJ,fp,lY⟩:RS).an)=z at dT gB bh rB ⊢;have pA:=rB.role;have sW:=rB.au;clear rB;obtain⟨sP,lF,jI,Q6,B5,sQ,B6,B7,nM,sR,nN,B8⟩:=z;have pA:jI=⟨yi,false,yh,true,yw,vK,vL,vM⟩:=pA;have sW:lF=⟨y9,za,zb,false,zc⟩:=sW;subst pA sW;refine wh ?_;refine⟨[],[some 2],_,_,_,_,lD,t3,cw ?_⟩;refine⟨[],[some 0],_,_,_,_,dT,t3,cw ?_⟩;refine⟨[],[some 0],_,_,_,_,gB,t3,cw ?_⟩;refine sp ?_ ?_<;>intro gG
    ·have gG:0<l.length:=by have q:(((l.map b7).length:Nat):Int)>0:=gG
                            rw[List.length_map]at q;omega
     refine wh ?_;cases jh with
     |true=>
      rw[if_pos ⟨gG,rfl⟩];refine wh ?_;refine⟨[],[some 0],_,_,_,_,bh,t3,cw ?_⟩;exact⟨[],[some 0],_,_,_,t3,rfl,rfl,rfl⟩
     |false=>
      rw[if_neg (fun q=>Bool.noConfusion q.2)];refine wh ?_;exact⟨[],[some 0],_,_,_,t3,rfl,rfl,rfl⟩
    ·have gG:¬0<l.length:=fun q=>gG (by show(((l.map b7).length:Nat):Int)>0;rw[List.length_map];omega);rw[if_neg (fun q=>gG q.1)];refine wh ?_;exact⟨[],[some 0],_,_,_,t3,rfl,rfl,rfl⟩
   |true=>
    by_cases h3:d≤aE (nT x us).an
    ·have e3:B4 x d us={nT x us with df:=true}:=if_pos ⟨ht,hf,h3⟩;rw[e3,e2]at gB bh;rw[e3,e2];rw[e2]at fY h3;generalize gL ({cA (fE x us) (aE (fE x us).an)with df:=true}:RS)=w at gB bh ⊢;obtain⟨As,At,Au,Wc,Ks,Av,Kt,Ku,jh,Aw,um,Kv⟩:=w;clear sH G1 G2 G3 e2 e3 hy dX m6 NL;generalize fE x us=y at ql lD dT gB bh rB fY h3 ⊢;have jJ:=ql.role;have j5:=ql.au;rw[←jJ]at hj ht;rw[←j5]at hf;clear ql jJ j5;obtain⟨iH,⟨y9,za,zb,Kw,zc⟩,⟨yi,yj,yh,yt,yw,vK,vL,vM⟩,Ap,ke,iI,nK,nL,fo,iJ,fp,lY⟩:=y;have hj:yj=false:=hj;have hf:Kw=true:=hf;have ht:yt=true:=ht;subst hj hf ht
     generalize cA ⟨iH,⟨y9,za,zb,true,zc⟩,⟨yi,false,yh,true,yw,vK,vL,vM⟩,Ap,ke,iI,nK,nL,fo,iJ,fp,lY⟩ (aE (⟨iH,⟨y9,za,zb,true,zc⟩,⟨yi,false,yh,true,yw,vK,vL,vM⟩,Ap,ke,iI,nK,nL,fo,iJ,fp,lY⟩:RS).an)=z at dT gB bh rB fY h3 ⊢;have pA:=rB.role;have sW:=rB.au;clear rB;obtain⟨sP,lF,jI,Q6,B5,sQ,B6,B7,nM,sR,nN,B8⟩:=z;have pA:jI=⟨yi,false,yh,true,yw,vK,vL,vM⟩:=pA;have sW:lF=⟨y9,za,zb,true,zc⟩:=sW;subst pA sW;refine wh ?_;refine⟨[],[some 2],_,_,_,_,lD,t3,cw ?_⟩;refine⟨[],[some 0],_,_,_,_,dT,t3,cw ?_⟩;refine⟨[],[some 5],_,_,_,_,fY,t3,cw ?_⟩;refine sp ?_ ?_<;>intro vq;rotate_left
     ·exact absurd h3 vq
     refine wh ?_;refine⟨[],[some 0],_,_,_,_,gB,t3,cw ?_⟩;refine sp ?_ ?_<;>intro gG
     ·have gG:0<l.length:=by have q:(((l.map b7).length:Nat):Int)>0:=gG
                             rw[List.length_map]at q;omega
      refine wh ?_;cases jh with
      |true=>
       rw[if_pos ⟨gG,rfl⟩];refine wh ?_;refine⟨[],[some 0],_,_,_,_,bh,t3,cw ?_⟩;exact⟨[],[some 0],_,_,_,t3,rfl,rfl,rfl⟩
      |false=>
       rw[if_neg (fun q=>Bool.noConfusion q.2)];refine wh ?_;exact⟨[],[some 0],_,_,_,t3,rfl,rfl,rfl⟩
     ·have gG:¬0<l.length:=fun q=>gG (by show(((l.map b7).length:Nat):Int)>0;rw[List.length_map];omega);rw[if_neg (fun q=>gG q.1)];refine wh ?_;exact⟨[],[some 0],_,_,_,t3,rfl,rfl,rfl⟩
    ·have e3:B4 x d us=nT x us:=if_neg (fun q=>h3 q.2.2);rw[e3,e2]at gB bh;rw[e3,e2];rw[e2]at fY h3;generalize gL (cA (fE x us) (aE (fE x us).an))=w at gB bh ⊢;obtain⟨As,At,Au,Wc,Ks,Av,Kt,Ku,jh,Aw,um,Kv⟩:=w;clear sH G1 G2 G3 e2 e3 hy dX m6 NL;generalize fE x us=y at ql lD dT gB bh rB fY h3 ⊢;have jJ:=ql.role;have j5:=ql.au;rw[←jJ]at hj ht;rw[←j5]at hf;clear ql jJ j5;obtain⟨iH,⟨y9,za,zb,Kw,zc⟩,⟨yi,yj,yh,yt,yw,vK,vL,vM⟩,Ap,ke,iI,nK,nL,fo,iJ,fp,lY⟩:=y;have hj:yj=false:=hj;have hf:Kw=true:=hf;have ht:yt=true:=ht;subst hj hf ht
     generalize cA ⟨iH,⟨y9,za,zb,true,zc⟩,⟨yi,false,yh,true,yw,vK,vL,vM⟩,Ap,ke,iI,nK,nL,fo,iJ,fp,lY⟩ (aE (⟨iH,⟨y9,za,zb,true,zc⟩,⟨yi,false,yh,true,yw,vK,vL,vM⟩,Ap,ke,iI,nK,nL,fo,iJ,fp,lY⟩:RS).an)=z at dT gB bh rB fY h3 ⊢;have pA:=rB.role;have sW:=rB.au;clear rB;obtain⟨sP,lF,jI,Q6,B5,sQ,B6,B7,nM,sR,nN,B8⟩:=z;have pA:jI=⟨yi,false,yh,true,yw,vK,vL,vM⟩:=pA;have sW:lF=⟨y9,za,zb,true,zc⟩:=sW;subst pA sW;refine wh ?_;refine⟨[],[some 2],_,_,_,_,lD,t3,cw ?_⟩;refine⟨[],[some 0],_,_,_,_,dT,t3,cw ?_⟩;refine⟨[],[some 5],_,_,_,_,fY,t3,cw ?_⟩;refine sp ?_ ?_<;>intro vq
     ·exact absurd vq h3
     refine wh ?_;refine⟨[],[some 0],_,_,_,_,gB,t3,cw ?_⟩;refine sp ?_ ?_<;>intro gG
     ·have gG:0<l.length:=by have q:(((l.map b7).length:Nat):Int)>0:=gG
                             rw[List.length_map]at q;omega
      refine wh ?_;cases jh with
      |true=>
       rw[if_pos ⟨gG,rfl⟩];refine wh ?_;refine⟨[],[some 0],_,_,_,_,bh,t3,cw ?_⟩;exact⟨[],[some 0],_,_,_,t3,rfl,rfl,rfl⟩
      |false=>
       rw[if_neg (fun q=>Bool.noConfusion q.2)];refine wh ?_;exact⟨[],[some 0],_,_,_,t3,rfl,rfl,rfl⟩
     ·have gG:¬0<l.length:=fun q=>gG (by show(((l.map b7).length:Nat):Int)>0;rw[List.length_map];omega);rw[if_neg (fun q=>gG q.1)];refine wh ?_;exact⟨[],[some 0],_,_,_,t3,rfl,rfl,rfl⟩
  |false=>
   have e3:B4 x d us=nT x us:=if_neg (fun q=>by rw[ht]at q;exact Bool.noConfusion q.1);cases hj:x.role.jY with
   |true=>
    have e2:nT x us=cA (fE x us) (aE (fE x us).an):=by
     show(if x.role.tail=true∨x.role.jY=true then cA (fE x us) (aE (fE x us).an)else fE x us)=_;rw[hj];exact if_pos (.inr rfl)
    rw[e3,e2]at gB bh;rw[e3,e2];clear fY;cases hf:x.au.fresh with
    |false=>
     generalize gL (cA (fE x us) (aE (fE x us).an))=w at gB bh ⊢;obtain⟨As,At,Au,Wc,Ks,Av,Kt,Ku,jh,Aw,um,Kv⟩:=w;clear sH G1 G2 G3 e2 e3 hy dX m6 NL;generalize fE x us=y at ql lD dT gB bh rB ⊢;have jJ:=ql.role;have j5:=ql.au;rw[←jJ]at hj ht;rw[←j5]at hf;clear ql jJ j5;obtain⟨iH,⟨y9,za,zb,Kw,zc⟩,⟨yi,yj,yh,yt,yw,vK,vL,vM⟩,Ap,ke,iI,nK,nL,fo,iJ,fp,lY⟩:=y;have hj:yj=true:=hj;have hf:Kw=false:=hf;have ht:yt=false:=ht;subst hj hf ht
     generalize cA ⟨iH,⟨y9,za,zb,false,zc⟩,⟨yi,true,yh,false,yw,vK,vL,vM⟩,Ap,ke,iI,nK,nL,fo,iJ,fp,lY⟩ (aE (⟨iH,⟨y9,za,zb,false,zc⟩,⟨yi,true,yh,false,yw,vK,vL,vM⟩,Ap,ke,iI,nK,nL,fo,iJ,fp,lY⟩:RS).an)=z at dT gB bh rB ⊢;have pA:=rB.role;have sW:=rB.au;clear rB;obtain⟨sP,lF,jI,Q6,B5,sQ,B6,B7,nM,sR,nN,B8⟩:=z;have pA:jI=⟨yi,true,yh,false,yw,vK,vL,vM⟩:=pA;have sW:lF=⟨y9,za,zb,false,zc⟩:=sW;subst pA sW;refine wh ?_;refine⟨[],[some 2],_,_,_,_,lD,t3,cw ?_⟩;refine⟨[],[some 0],_,_,_,_,dT,t3,cw ?_⟩;refine⟨[],[some 0],_,_,_,_,gB,t3,cw ?_⟩;refine sp ?_ ?_<;>intro gG
     ·have gG:0<l.length:=by have q:(((l.map b7).length:Nat):Int)>0:=gG
                             rw[List.length_map]at q;omega
      refine wh ?_;cases jh with
      |true=>
       rw[if_pos ⟨gG,rfl⟩];refine wh ?_;refine⟨[],[some 0],_,_,_,_,bh,t3,cw ?_⟩;exact⟨[],[some 0],_,_,_,t3,rfl,rfl,rfl⟩
      |false=>
       rw[if_neg (fun q=>Bool.noConfusion q.2)];refine wh ?_;exact⟨[],[some 0],_,_,_,t3,rfl,rfl,rfl⟩
     ·have gG:¬0<l.length:=fun q=>gG (by show(((l.map b7).length:Nat):Int)>0;rw[List.length_map];omega);rw[if_neg (fun q=>gG q.1)];refine wh ?_;exact⟨[],[some 0],_,_,_,t3,rfl,rfl,rfl⟩
    |true=>
     generalize gL (cA (fE x us) (aE (fE x us).an))=w at gB bh ⊢;obtain⟨As,At,Au,Wc,Ks,Av,Kt,Ku,jh,Aw,um,Kv⟩:=w;clear sH G1 G2 G3 e2 e3 hy dX m6 NL;generalize fE x us=y at ql lD dT gB bh rB ⊢;have jJ:=ql.role;have j5:=ql.au;rw[←jJ]at hj ht;rw[←j5]at hf;clear ql jJ j5;obtain⟨iH,⟨y9,za,zb,Kw,zc⟩,⟨yi,yj,yh,yt,yw,vK,vL,vM⟩,Ap,ke,iI,nK,nL,fo,iJ,fp,lY⟩:=y;have hj:yj=true:=hj;have hf:Kw=true:=hf;have ht:yt=false:=ht;subst hj hf ht
     generalize cA ⟨iH,⟨y9,za,zb,true,zc⟩,⟨yi,true,yh,false,yw,vK,vL,vM⟩,Ap,ke,iI,nK,nL,fo,iJ,fp,lY⟩ (aE (⟨iH,⟨y9,za,zb,true,zc⟩,⟨yi,true,yh,false,yw,vK,vL,vM⟩,Ap,ke,iI,nK,nL,fo,iJ,fp,lY⟩:RS).an)=z at dT gB bh rB ⊢;have pA:=rB.role;have sW:=rB.au;clear rB;obtain⟨sP,lF,jI,Q6,B5,sQ,B6,B7,nM,sR,nN,B8⟩:=z;have pA:jI=⟨yi,true,yh,false,yw,vK,vL,vM⟩:=pA;have sW:lF=⟨y9,za,zb,true,zc⟩:=sW;subst pA sW;refine wh ?_;refine⟨[],[some 2],_,_,_,_,lD,t3,cw ?_⟩;refine⟨[],[some 0],_,_,_,_,dT,t3,cw ?_⟩;refine⟨[],[some 0],_,_,_,_,gB,t3,cw ?_⟩;refine sp ?_ ?_<;>intro gG
     ·have gG:0<l.length:=by have q:(((l.map b7).length:Nat):Int)>0:=gG
                             rw[List.length_map]at q;omega
      refine wh ?_;cases jh with
      |true=>
       rw[if_pos ⟨gG,rfl⟩];refine wh ?_;refine⟨[],[some 0],_,_,_,_,bh,t3,cw ?_⟩;exact⟨[],[some 0],_,_,_,t3,rfl,rfl,rfl⟩
      |false=>
       rw[if_neg (fun q=>Bool.noConfusion q.2)];refine wh ?_;exact⟨[],[some 0],_,_,_,t3,rfl,rfl,rfl⟩
     ·have gG:¬0<l.length:=fun q=>gG (by show(((l.map b7).length:Nat):Int)>0;rw[List.length_map];omega);rw[if_neg (fun q=>gG q.1)];refine wh ?_;exact⟨[],[some 0],_,_,_,t3,rfl,rfl,rfl⟩
   |false=>
    have e2:nT x us=fE x us:=by
     show(if x.role.tail=true∨x.role.jY=true then cA (fE x us) (aE (fE x us).an)else fE x us)=_;rw[ht,hj];exact if_neg (fun q=>by rcases q with q|q<;>cases q)
    rw[e3,e2]at gB bh;rw[e3,e2];clear fY;cases hf:x.au.fresh with
    |false=>
     generalize gL (fE x us)=w at gB bh ⊢;obtain⟨As,At,Au,Wc,Ks,Av,Kt,Ku,jh,Aw,um,Kv⟩:=w;clear sH G1 G2 G3 e2 e3 hy dX m6 NL;generalize fE x us=y at ql lD dT gB bh rB ⊢;have jJ:=ql.role;have j5:=ql.au;rw[←jJ]at hj ht;rw[←j5]at hf;clear ql jJ j5;obtain⟨iH,⟨y9,za,zb,Kw,zc⟩,⟨yi,yj,yh,yt,yw,vK,vL,vM⟩,Ap,ke,iI,nK,nL,fo,iJ,fp,lY⟩:=y;have hj:yj=false:=hj;have hf:Kw=false:=hf;have ht:yt=false:=ht;subst hj hf ht;refine wh ?_;refine⟨[],[some 0],_,_,_,_,gB,t3,cw ?_⟩;refine sp ?_ ?_<;>intro gG
     ·have gG:0<l.length:=by have q:(((l.map b7).length:Nat):Int)>0:=gG
                             rw[List.length_map]at q;omega
      refine wh ?_;cases jh with
      |true=>
       rw[if_pos ⟨gG,rfl⟩];refine wh ?_;refine⟨[],[some 0],_,_,_,_,bh,t3,cw ?_⟩;exact⟨[],[some 0],_,_,_,t3,rfl,rfl,rfl⟩
      |false=>
       rw[if_neg (fun q=>Bool.noConfusion q.2)];refine wh ?_;exact⟨[],[some 0],_,_,_,t3,rfl,rfl,rfl⟩
     ·have gG:¬0<l.length:=fun q=>gG (by show(((l.map b7).length:Nat):Int)>0;rw[List.length_map];omega);rw[if_neg (fun q=>gG q.1)];refine wh ?_;exact⟨[],[some 0],_,_,_,t3,rfl,rfl,rfl⟩
    |true=>
     generalize gL (fE x us)=w at gB bh ⊢;obtain⟨As,At,Au,Wc,Ks,Av,Kt,Ku,jh,Aw,um,Kv⟩:=w;clear sH G1 G2 G3 e2 e3 hy dX m6 NL;generalize fE x us=y at ql lD dT gB bh rB ⊢;have jJ:=ql.role;have j5:=ql.au;rw[←jJ]at hj ht;rw[←j5]at hf;clear ql jJ j5;obtain⟨iH,⟨y9,za,zb,Kw,zc⟩,⟨yi,yj,yh,yt,yw,vK,vL,vM⟩,Ap,ke,iI,nK,nL,fo,iJ,fp,lY⟩:=y;have hj:yj=false:=hj;have hf:Kw=true:=hf;have ht:yt=false:=ht;subst hj hf ht;refine wh ?_;refine⟨[],[some 0],_,_,_,_,gB,t3,cw ?_⟩;refine sp ?_ ?_<;>intro gG
     ·have gG:0<l.length:=by have q:(((l.map b7).length:Nat):Int)>0:=gG
                             rw[List.length_map]at q;omega
      refine wh ?_;cases jh with
      |true=>
       rw[if_pos ⟨gG,rfl⟩];refine wh ?_;refine⟨[],[some 0],_,_,_,_,bh,t3,cw ?_⟩;exact⟨[],[some 0],_,_,_,t3,rfl,rfl,rfl⟩
      |false=>
       rw[if_neg (fun q=>Bool.noConfusion q.2)];refine wh ?_;exact⟨[],[some 0],_,_,_,t3,rfl,rfl,rfl⟩
     ·have gG:¬0<l.length:=fun q=>gG (by show(((l.map b7).length:Nat):Int)>0;rw[List.length_map];omega);rw[if_neg (fun q=>gG q.1)];refine wh ?_;exact⟨[],[some 0],_,_,_,t3,rfl,rfl,rfl⟩
end Go.M
