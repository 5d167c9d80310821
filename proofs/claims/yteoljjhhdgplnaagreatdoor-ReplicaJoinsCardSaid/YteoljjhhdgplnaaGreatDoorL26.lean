/-
  Part 26 of the library that the proof leans on.
-/
import Derived.Test.YteoljjhhdgplnaaGreatDoorL12
import Derived.Test.YteoljjhhdgplnaaGreatDoorL25
namespace Go.M
open Go Go.Proofs
set_option maxRecDepth 100000
set_option maxHeartbeats 4000000
@[reducible] def g6 (x:RS) (us:List dx):RS:=(dX us (au x.an)).foldl Bn x
@[reducible] def zX (x:RS) (us:List dx):RS:=if x.role.tail=true∨x.role.jm=true then cp (g6 x us) (au (g6 x us).an)else g6 x us
@[reducible] def LC (x:RS) (d:Int) (us:List dx):RS:=if x.role.tail=true∧x.ak.fresh=true∧d≤au (zX x us).an then {zX x us with dq:=true}else zX x us
theorem Jj {x:RS} {d:Int} {us:List dx}:tB x d us=(if 0<(dX us (au x.an)).length∧(jo (LC x d us)).known=true then dZ (jo (LC x d us))else jo (LC x d us)):=rfl
theorem PL (x:RS) (f t ch e s d:Int) (us:List dx) (G:gX x) (htj:x.role.tail=true→x.role.jm=false) (hl:us.length≤4) (hd:∀u∈us,u.data.length≤2048∧Qv u)
 (zq:∀(i:Nat) (h:i<(dX us (au x.an)).length),gX (((dX us (au x.an)).take i).foldl Bn x)∧Jh (((dX us (au x.an)).take i).foldl Bn x) (dX us (au x.an))[i])
 (G1:gX (g6 x us)) (G2:nP (jo (LC x d us))) (G3:gX (zX x us)):
 VC E0 28 1 [.ptr 0 0,.agg (bp (uP f t ch e s d us))] (iz x) (RR (.cB []) 1 (iz (tB x d us))):=by
 rw[Jj];have bW:=bX x.an G.an;have uY:=vX us (au x.an);have mq:=Ji us (au x.an) om hd;have mX:=bX (g6 x us).an G1.an;have dM:=G1.done (au (g6 x us).an) G1.XA;have Co:(LC x d us).an=(zX x us).an∧(LC x d us).out=(zX x us).out:=by unfold LC;split<;>exact⟨rfl,rfl⟩
 have fT:=pH (LC x d us) (by have:=G3.out;rw[Co.2];omega) (by rw[Co.1];exact G3.an);have eV:=bX (zX x us).an G3.an;have bj:=G2.hand;have sY:=Bv (dX us (au x.an)) x;have tu:=(Bv (dX us (au x.an)) x).trans (xo (g6 x us) (au (g6 x us).an));refine en L0 Tryz.f28 ?_;refine⟨[],[some 2],_,_,_,_,bW,t3,cw ?_⟩;refine⟨[],[],_,_,_,_,mq,t3,cw ?_⟩;generalize afQ:dX us (au x.an)=l at uY zq sY
 refine⟨fun k f_ o c=>∃i:Nat,i≤l.length∧k=l.length - i∧c=2∧f_=[(0,.ptr 0 0),(3,.ptr 1 0),(16,.sl 7 (l.map cD) false),(17,.s (.int .i64 l.length)),(18,.s (.int .i64 i))]∧o=[(0,ie ((l.take i).foldl Bn x)),(1,.cells (bp (uP f t ch e s d l)))],⟨l.length,?_⟩,?_⟩
 ·refine⟨[],[some 0,some 1],_,_,_,tx ?_,⟨0,Nat.zero_le _,rfl,rfl,rfl,rfl⟩⟩;exact Lz.int (by rw[List.length_map])
 rintro k f1 o1 c1 ⟨i,hi,rfl,rfl,rfl,rfl⟩;refine wh ?_;refine sp ?_ ?_<;>intro h
 ·have h:i<l.length:=by have h:(i:Int)<l.length:=h
                        omega
  have BU:IntKind.i64.wrap ((i:Int)+1)=((i+1:Nat):Int):=IntWalk.i64_in _ om;obtain⟨Gi,Ui⟩:=zq i h;have H7:=Ui.up Gi;have nX:(l.take (i+1)).foldl Bn x=Bn ((l.take i).foldl Bn x) l[i]:=by rw[jT l i h,List.foldl_append];rfl
  generalize (l.take i).foldl Bn x=y at nX H7;refine wh ?_;refine oB h ?_;refine wh ?_;refine⟨[],[some 0],_,_,_,_,H7,t3,cw ?_⟩;refine⟨l.length - (i+1),?_,om⟩;rw[BU];exact⟨[],[some 0,some 1],_,_,_,t3,⟨i+1,h,rfl,rfl,rfl,congrArg (fun z=>[(0,ie z),(1,.cells (bp (uP f t ch e s d l)))]) nX.symm⟩⟩
 ·obtain rfl:i=l.length:=by have h:¬(i:Int)<l.length:=h;omega
  rw[List.take_length];have hy:l.foldl Bn x=g6 x us:=by show _=(dX us (au x.an)).foldl Bn x;rw[afQ]
  rw[hy]at sY ⊢
  try rw[afQ]
  have tu:=xo (g6 x us) (au (g6 x us).an);cases ht:x.role.tail with
  |true=>
   have hj:=htj ht;have e2:zX x us=cp (g6 x us) (au (g6 x us).an):=by
    show(if x.role.tail=true∨x.role.jm=true then cp (g6 x us) (au (g6 x us).an)else g6 x us)=_;rw[ht];exact if_pos (.inl rfl)
   cases hf:x.ak.fresh with
   |false=>
    have e3:LC x d us=zX x us:=if_neg (fun q=>by rw[hf]at q;exact Bool.noConfusion q.2.1);rw[e3,e2]at fT bj;rw[e3,e2];clear eV;generalize jo (cp (g6 x us) (au (g6 x us).an))=w at fT bj ⊢;obtain⟨DS,DT,DU,wst,PM,DV,PN,PO,jW,DW,xq,PQ⟩:=w;clear zq G1 G2 G3 e2 e3 hy bW mq Co;generalize g6 x us=y at sY mX dM fT bj tu ⊢;have jI:=sY.role;have kR:=sY.ak;rw[←jI]at hj ht;rw[←kR]at hf;clear sY jI kR;obtain⟨js,⟨Cr,Cs,Ct,PR,Cu⟩,⟨yi,yj,yh,yt,yw,zu,zw,zy⟩,DP,kY,jt,pI,pJ,fR,ju,fS,nO⟩:=y;have hj:yj=false:=hj;have hf:PR=false:=hf;have ht:yt=true:=ht;subst hj hf ht
    generalize cp ⟨js,⟨Cr,Cs,Ct,false,Cu⟩,⟨yi,false,yh,true,yw,zu,zw,zy⟩,DP,kY,jt,pI,pJ,fR,ju,fS,nO⟩ (au (⟨js,⟨Cr,Cs,Ct,false,Cu⟩,⟨yi,false,yh,true,yw,zu,zw,zy⟩,DP,kY,jt,pI,pJ,fR,ju,fS,nO⟩:RS).an)=z at dM fT bj tu ⊢;have oO:=tu.role;have tT:=tu.ak;clear tu;obtain⟨tD,kM,jx,Vo,Cv,tF,Cw,Cy,nQ,tG,nR,Cz⟩:=z;have oO:jx=⟨yi,false,yh,true,yw,zu,zw,zy⟩:=oO;have tT:kM=⟨Cr,Cs,Ct,false,Cu⟩:=tT;subst oO tT;refine wh ?_;refine⟨[],[some 2],_,_,_,_,mX,t3,cw ?_⟩;refine⟨[],[some 0],_,_,_,_,dM,t3,cw ?_⟩;refine⟨[],[some 0],_,_,_,_,fT,t3,cw ?_⟩;refine sp ?_ ?_<;>intro gu
    ·have gu:0<l.length:=by have q:(((l.map cD).length:Nat):Int)>0:=gu
                            rw[List.length_map]at q;omega
     refine wh ?_;cases jW with
     |true=>
      rw[if_pos ⟨gu,rfl⟩];refine wh ?_;refine⟨[],[some 0],_,_,_,_,bj,t3,cw ?_⟩;exact⟨[],[some 0],_,_,_,t3,rfl,rfl,rfl⟩
     |false=>
      rw[if_neg (fun q=>Bool.noConfusion q.2)];refine wh ?_;exact⟨[],[some 0],_,_,_,t3,rfl,rfl,rfl⟩
    ·have gu:¬0<l.length:=fun q=>gu (by show(((l.map cD).length:Nat):Int)>0;rw[List.length_map];omega);rw[if_neg (fun q=>gu q.1)];refine wh ?_;exact⟨[],[some 0],_,_,_,t3,rfl,rfl,rfl⟩
   |true=>
    by_cases h3:d≤au (zX x us).an
    ·have e3:LC x d us={zX x us with dq:=true}:=if_pos ⟨ht,hf,h3⟩;rw[e3,e2]at fT bj;rw[e3,e2];rw[e2]at eV h3;generalize jo ({cp (g6 x us) (au (g6 x us).an)with dq:=true}:RS)=w at fT bj ⊢;obtain⟨DS,DT,DU,wst,PM,DV,PN,PO,jW,DW,xq,PQ⟩:=w;clear zq G1 G2 G3 e2 e3 hy bW mq Co;generalize g6 x us=y at sY mX dM fT bj tu eV h3 ⊢;have jI:=sY.role;have kR:=sY.ak;rw[←jI]at hj ht;rw[←kR]at hf;clear sY jI kR;obtain⟨js,⟨Cr,Cs,Ct,PR,Cu⟩,⟨yi,yj,yh,yt,yw,zu,zw,zy⟩,DP,kY,jt,pI,pJ,fR,ju,fS,nO⟩:=y;have hj:yj=false:=hj;have hf:PR=true:=hf;have ht:yt=true:=ht;subst hj hf ht
     generalize cp ⟨js,⟨Cr,Cs,Ct,true,Cu⟩,⟨yi,false,yh,true,yw,zu,zw,zy⟩,DP,kY,jt,pI,pJ,fR,ju,fS,nO⟩ (au (⟨js,⟨Cr,Cs,Ct,true,Cu⟩,⟨yi,false,yh,true,yw,zu,zw,zy⟩,DP,kY,jt,pI,pJ,fR,ju,fS,nO⟩:RS).an)=z at dM fT bj tu eV h3 ⊢;have oO:=tu.role;have tT:=tu.ak;clear tu;obtain⟨tD,kM,jx,Vo,Cv,tF,Cw,Cy,nQ,tG,nR,Cz⟩:=z;have oO:jx=⟨yi,false,yh,true,yw,zu,zw,zy⟩:=oO;have tT:kM=⟨Cr,Cs,Ct,true,Cu⟩:=tT;subst oO tT;refine wh ?_;refine⟨[],[some 2],_,_,_,_,mX,t3,cw ?_⟩;refine⟨[],[some 0],_,_,_,_,dM,t3,cw ?_⟩;refine⟨[],[some 5],_,_,_,_,eV,t3,cw ?_⟩;refine sp ?_ ?_<;>intro y9;rotate_left
     ·exact absurd h3 y9
     refine wh ?_;refine⟨[],[some 0],_,_,_,_,fT,t3,cw ?_⟩;refine sp ?_ ?_<;>intro gu
     ·have gu:0<l.length:=by have q:(((l.map cD).length:Nat):Int)>0:=gu
                             rw[List.length_map]at q;omega
      refine wh ?_;cases jW with
      |true=>
       rw[if_pos ⟨gu,rfl⟩];refine wh ?_;refine⟨[],[some 0],_,_,_,_,bj,t3,cw ?_⟩;exact⟨[],[some 0],_,_,_,t3,rfl,rfl,rfl⟩
      |false=>
       rw[if_neg (fun q=>Bool.noConfusion q.2)];refine wh ?_;exact⟨[],[some 0],_,_,_,t3,rfl,rfl,rfl⟩
     ·have gu:¬0<l.length:=fun q=>gu (by show(((l.map cD).length:Nat):Int)>0;rw[List.length_map];omega);rw[if_neg (fun q=>gu q.1)];refine wh ?_;exact⟨[],[some 0],_,_,_,t3,rfl,rfl,rfl⟩
    ·have e3:LC x d us=zX x us:=if_neg (fun q=>h3 q.2.2);rw[e3,e2]at fT bj;rw[e3,e2];rw[e2]at eV h3;generalize jo (cp (g6 x us) (au (g6 x us).an))=w at fT bj ⊢;obtain⟨DS,DT,DU,wst,PM,DV,PN,PO,jW,DW,xq,PQ⟩:=w;clear zq G1 G2 G3 e2 e3 hy bW mq Co;generalize g6 x us=y at sY mX dM fT bj tu eV h3 ⊢;have jI:=sY.role;have kR:=sY.ak;rw[←jI]at hj ht;rw[←kR]at hf;clear sY jI kR;obtain⟨js,⟨Cr,Cs,Ct,PR,Cu⟩,⟨yi,yj,yh,yt,yw,zu,zw,zy⟩,DP,kY,jt,pI,pJ,fR,ju,fS,nO⟩:=y;have hj:yj=false:=hj;have hf:PR=true:=hf;have ht:yt=true:=ht;subst hj hf ht
     generalize cp ⟨js,⟨Cr,Cs,Ct,true,Cu⟩,⟨yi,false,yh,true,yw,zu,zw,zy⟩,DP,kY,jt,pI,pJ,fR,ju,fS,nO⟩ (au (⟨js,⟨Cr,Cs,Ct,true,Cu⟩,⟨yi,false,yh,true,yw,zu,zw,zy⟩,DP,kY,jt,pI,pJ,fR,ju,fS,nO⟩:RS).an)=z at dM fT bj tu eV h3 ⊢;have oO:=tu.role;have tT:=tu.ak;clear tu;obtain⟨tD,kM,jx,Vo,Cv,tF,Cw,Cy,nQ,tG,nR,Cz⟩:=z;have oO:jx=⟨yi,false,yh,true,yw,zu,zw,zy⟩:=oO;have tT:kM=⟨Cr,Cs,Ct,true,Cu⟩:=tT;subst oO tT;refine wh ?_;refine⟨[],[some 2],_,_,_,_,mX,t3,cw ?_⟩;refine⟨[],[some 0],_,_,_,_,dM,t3,cw ?_⟩;refine⟨[],[some 5],_,_,_,_,eV,t3,cw ?_⟩;refine sp ?_ ?_<;>intro y9
     ·exact absurd y9 h3
     refine wh ?_;refine⟨[],[some 0],_,_,_,_,fT,t3,cw ?_⟩;refine sp ?_ ?_<;>intro gu
     ·have gu:0<l.length:=by have q:(((l.map cD).length:Nat):Int)>0:=gu
                             rw[List.length_map]at q;omega
      refine wh ?_;cases jW with
      |true=>
       rw[if_pos ⟨gu,rfl⟩];refine wh ?_;refine⟨[],[some 0],_,_,_,_,bj,t3,cw ?_⟩;exact⟨[],[some 0],_,_,_,t3,rfl,rfl,rfl⟩
      |false=>
       rw[if_neg (fun q=>Bool.noConfusion q.2)];refine wh ?_;exact⟨[],[some 0],_,_,_,t3,rfl,rfl,rfl⟩
     ·have gu:¬0<l.length:=fun q=>gu (by show(((l.map cD).length:Nat):Int)>0;rw[List.length_map];omega);rw[if_neg (fun q=>gu q.1)];refine wh ?_;exact⟨[],[some 0],_,_,_,t3,rfl,rfl,rfl⟩
  |false=>
   have e3:LC x d us=zX x us:=if_neg (fun q=>by rw[ht]at q;exact Bool.noConfusion q.1);cases hj:x.role.jm with
   |true=>
    have e2:zX x us=cp (g6 x us) (au (g6 x us).an):=by
     show(if x.role.tail=true∨x.role.jm=true then cp (g6 x us) (au (g6 x us).an)else g6 x us)=_;rw[hj];exact if_pos (.inr rfl)
    rw[e3,e2]at fT bj;rw[e3,e2];clear eV;cases hf:x.ak.fresh with
    |false=>
     generalize jo (cp (g6 x us) (au (g6 x us).an))=w at fT bj ⊢;obtain⟨DS,DT,DU,wst,PM,DV,PN,PO,jW,DW,xq,PQ⟩:=w;clear zq G1 G2 G3 e2 e3 hy bW mq Co;generalize g6 x us=y at sY mX dM fT bj tu ⊢;have jI:=sY.role;have kR:=sY.ak;rw[←jI]at hj ht;rw[←kR]at hf;clear sY jI kR;obtain⟨js,⟨Cr,Cs,Ct,PR,Cu⟩,⟨yi,yj,yh,yt,yw,zu,zw,zy⟩,DP,kY,jt,pI,pJ,fR,ju,fS,nO⟩:=y;have hj:yj=true:=hj;have hf:PR=false:=hf;have ht:yt=false:=ht;subst hj hf ht
     generalize cp ⟨js,⟨Cr,Cs,Ct,false,Cu⟩,⟨yi,true,yh,false,yw,zu,zw,zy⟩,DP,kY,jt,pI,pJ,fR,ju,fS,nO⟩ (au (⟨js,⟨Cr,Cs,Ct,false,Cu⟩,⟨yi,true,yh,false,yw,zu,zw,zy⟩,DP,kY,jt,pI,pJ,fR,ju,fS,nO⟩:RS).an)=z at dM fT bj tu ⊢;have oO:=tu.role;have tT:=tu.ak;clear tu;obtain⟨tD,kM,jx,Vo,Cv,tF,Cw,Cy,nQ,tG,nR,Cz⟩:=z;have oO:jx=⟨yi,true,yh,false,yw,zu,zw,zy⟩:=oO;have tT:kM=⟨Cr,Cs,Ct,false,Cu⟩:=tT;subst oO tT;refine wh ?_;refine⟨[],[some 2],_,_,_,_,mX,t3,cw ?_⟩;refine⟨[],[some 0],_,_,_,_,dM,t3,cw ?_⟩;refine⟨[],[some 0],_,_,_,_,fT,t3,cw ?_⟩;refine sp ?_ ?_<;>intro gu
     ·have gu:0<l.length:=by have q:(((l.map cD).length:Nat):Int)>0:=gu
                             rw[List.length_map]at q;omega
      refine wh ?_;cases jW with
      |true=>
       rw[if_pos ⟨gu,rfl⟩];refine wh ?_;refine⟨[],[some 0],_,_,_,_,bj,t3,cw ?_⟩;exact⟨[],[some 0],_,_,_,t3,rfl,rfl,rfl⟩
      |false=>
       rw[if_neg (fun q=>Bool.noConfusion q.2)];refine wh ?_;exact⟨[],[some 0],_,_,_,t3,rfl,rfl,rfl⟩
     ·have gu:¬0<l.length:=fun q=>gu (by show(((l.map cD).length:Nat):Int)>0;rw[List.length_map];omega);rw[if_neg (fun q=>gu q.1)];refine wh ?_;exact⟨[],[some 0],_,_,_,t3,rfl,rfl,rfl⟩
    |true=>
     generalize jo (cp (g6 x us) (au (g6 x us).an))=w at fT bj ⊢;obtain⟨DS,DT,DU,wst,PM,DV,PN,PO,jW,DW,xq,PQ⟩:=w;clear zq G1 G2 G3 e2 e3 hy bW mq Co;generalize g6 x us=y at sY mX dM fT bj tu ⊢;have jI:=sY.role;have kR:=sY.ak;rw[←jI]at hj ht;rw[←kR]at hf;clear sY jI kR;obtain⟨js,⟨Cr,Cs,Ct,PR,Cu⟩,⟨yi,yj,yh,yt,yw,zu,zw,zy⟩,DP,kY,jt,pI,pJ,fR,ju,fS,nO⟩:=y;have hj:yj=true:=hj;have hf:PR=true:=hf;have ht:yt=false:=ht;subst hj hf ht
     generalize cp ⟨js,⟨Cr,Cs,Ct,true,Cu⟩,⟨yi,true,yh,false,yw,zu,zw,zy⟩,DP,kY,jt,pI,pJ,fR,ju,fS,nO⟩ (au (⟨js,⟨Cr,Cs,Ct,true,Cu⟩,⟨yi,true,yh,false,yw,zu,zw,zy⟩,DP,kY,jt,pI,pJ,fR,ju,fS,nO⟩:RS).an)=z at dM fT bj tu ⊢;have oO:=tu.role;have tT:=tu.ak;clear tu;obtain⟨tD,kM,jx,Vo,Cv,tF,Cw,Cy,nQ,tG,nR,Cz⟩:=z;have oO:jx=⟨yi,true,yh,false,yw,zu,zw,zy⟩:=oO;have tT:kM=⟨Cr,Cs,Ct,true,Cu⟩:=tT;subst oO tT;refine wh ?_;refine⟨[],[some 2],_,_,_,_,mX,t3,cw ?_⟩;refine⟨[],[some 0],_,_,_,_,dM,t3,cw ?_⟩;refine⟨[],[some 0],_,_,_,_,fT,t3,cw ?_⟩;refine sp ?_ ?_<;>intro gu
     ·have gu:0<l.length:=by have q:(((l.map cD).length:Nat):Int)>0:=gu
                             rw[List.length_map]at q;omega
      refine wh ?_;cases jW with
      |true=>
       rw[if_pos ⟨gu,rfl⟩];refine wh ?_;refine⟨[],[some 0],_,_,_,_,bj,t3,cw ?_⟩;exact⟨[],[some 0],_,_,_,t3,rfl,rfl,rfl⟩
      |false=>
       rw[if_neg (fun q=>Bool.noConfusion q.2)];refine wh ?_;exact⟨[],[some 0],_,_,_,t3,rfl,rfl,rfl⟩
     ·have gu:¬0<l.length:=fun q=>gu (by show(((l.map cD).length:Nat):Int)>0;rw[List.length_map];omega);rw[if_neg (fun q=>gu q.1)];refine wh ?_;exact⟨[],[some 0],_,_,_,t3,rfl,rfl,rfl⟩
   |false=>
    have e2:zX x us=g6 x us:=by
     show(if x.role.tail=true∨x.role.jm=true then cp (g6 x us) (au (g6 x us).an)else g6 x us)=_;rw[ht,hj];exact if_neg (fun q=>by rcases q with q|q<;>cases q)
    rw[e3,e2]at fT bj;rw[e3,e2];clear eV;cases hf:x.ak.fresh with
    |false=>
     generalize jo (g6 x us)=w at fT bj ⊢;obtain⟨DS,DT,DU,wst,PM,DV,PN,PO,jW,DW,xq,PQ⟩:=w;clear zq G1 G2 G3 e2 e3 hy bW mq Co;generalize g6 x us=y at sY mX dM fT bj tu ⊢;have jI:=sY.role;have kR:=sY.ak;rw[←jI]at hj ht;rw[←kR]at hf;clear sY jI kR;obtain⟨js,⟨Cr,Cs,Ct,PR,Cu⟩,⟨yi,yj,yh,yt,yw,zu,zw,zy⟩,DP,kY,jt,pI,pJ,fR,ju,fS,nO⟩:=y;have hj:yj=false:=hj;have hf:PR=false:=hf;have ht:yt=false:=ht;subst hj hf ht;refine wh ?_;refine⟨[],[some 0],_,_,_,_,fT,t3,cw ?_⟩;refine sp ?_ ?_<;>intro gu
     ·have gu:0<l.length:=by have q:(((l.map cD).length:Nat):Int)>0:=gu
                             rw[List.length_map]at q;omega
      refine wh ?_;cases jW with
      |true=>
       rw[if_pos ⟨gu,rfl⟩];refine wh ?_;refine⟨[],[some 0],_,_,_,_,bj,t3,cw ?_⟩;exact⟨[],[some 0],_,_,_,t3,rfl,rfl,rfl⟩
      |false=>
       rw[if_neg (fun q=>Bool.noConfusion q.2)];refine wh ?_;exact⟨[],[some 0],_,_,_,t3,rfl,rfl,rfl⟩
     ·have gu:¬0<l.length:=fun q=>gu (by show(((l.map cD).length:Nat):Int)>0;rw[List.length_map];omega);rw[if_neg (fun q=>gu q.1)];refine wh ?_;exact⟨[],[some 0],_,_,_,t3,rfl,rfl,rfl⟩
    |true=>
     generalize jo (g6 x us)=w at fT bj ⊢;obtain⟨DS,DT,DU,wst,PM,DV,PN,PO,jW,DW,xq,PQ⟩:=w;clear zq G1 G2 G3 e2 e3 hy bW mq Co;generalize g6 x us=y at sY mX dM fT bj tu ⊢;have jI:=sY.role;have kR:=sY.ak;rw[←jI]at hj ht;rw[←kR]at hf;clear sY jI kR;obtain⟨js,⟨Cr,Cs,Ct,PR,Cu⟩,⟨yi,yj,yh,yt,yw,zu,zw,zy⟩,DP,kY,jt,pI,pJ,fR,ju,fS,nO⟩:=y;have hj:yj=false:=hj;have hf:PR=true:=hf;have ht:yt=false:=ht;subst hj hf ht;refine wh ?_;refine⟨[],[some 0],_,_,_,_,fT,t3,cw ?_⟩;refine sp ?_ ?_<;>intro gu
     ·have gu:0<l.length:=by have q:(((l.map cD).length:Nat):Int)>0:=gu
                             rw[List.length_map]at q;omega
      refine wh ?_;cases jW with
      |true=>
       rw[if_pos ⟨gu,rfl⟩];refine wh ?_;refine⟨[],[some 0],_,_,_,_,bj,t3,cw ?_⟩;exact⟨[],[some 0],_,_,_,t3,rfl,rfl,rfl⟩
      |false=>
       rw[if_neg (fun q=>Bool.noConfusion q.2)];refine wh ?_;exact⟨[],[some 0],_,_,_,t3,rfl,rfl,rfl⟩
     ·have gu:¬0<l.length:=fun q=>gu (by show(((l.map cD).length:Nat):Int)>0;rw[List.length_map];omega);rw[if_neg (fun q=>gu q.1)];refine wh ?_;exact⟨[],[some 0],_,_,_,t3,rfl,rfl,rfl⟩
theorem LD (a:Int) (b:List Int) (x:RS) (f t ch e s d:Int) (us:List dx) (H:nN x.an) (Hs:zr x.st) (hd:x.an.done=au x.an) (h5:au x.an≤50000) (hb:x.st.bs.length<13) (ho:x.out.length<50000)
 (ht:x.role.tail=true) (hj:x.role.jm=false) (hf:x.ak.fresh=false) (hl:us.length≤4) (Ma:∀u∈us,u.data.length≤2048∧Qv u) (uc:dX us (au x.an)=[]):
 VC E0 28 1 [.ptr 0 0,.agg (bp (uP f t ch e s d us))] (yu a b x) (RR (.cB []) 1 (yu a b (tB x d us))):=by
 have bW:=bX x.an H;have mq:=Ji us (au x.an) om Ma;rw[uc]at mq;have dM:=Ub a b x H Hs hd h5 hb;have Co:nN (cp x (au x.an)).an∧(cp x (au x.an)).out=x.out∧(cp x (au x.an)).role=x.role∧(cp x (au x.an)).ak=x.ak:=by rw[DQ hd];exact⟨Je H,rfl,rfl,rfl⟩
 have fT:=Cq a b (cp x (au x.an)) (by rw[Co.2.1];omega) Co.1;have e:tB x d us=jo (cp x (au x.an)):=by
  have e2:zX x us=cp x (au x.an):=by
   have e1:g6 x us=x:=by show(dX us (au x.an)).foldl Bn x=x;rw[uc];rfl
   show(if x.role.tail=true∨x.role.jm=true then cp (g6 x us) (au (g6 x us).an)else g6 x us)=_;rw[e1,if_pos (.inl ht)]
  have e3:LC x d us=zX x us:=if_neg (fun q=>by rw[hf]at q;exact Bool.noConfusion q.2.1);rw[Jj,e3,e2,uc,if_neg (fun q=>Nat.lt_irrefl 0 q.1)]
 rw[e];have hr:=Co.2.2;clear e Co hd Hs H hb h5;generalize cp x (au x.an)=z at dM fT hr ⊢;obtain⟨tD,kM,jx,Vo,Cv,tF,Cw,Cy,nQ,tG,nR,Cz⟩:=z;obtain⟨node,⟨c1,c2,c3,c4,c5⟩,⟨ri,rj,rh,rt,T8,XC,XD,XE⟩,st,an,base,dq,bu,known,want,comes,out⟩:=x;have ht:rt=true:=ht;have hj:rj=false:=hj;have hf:c4=false:=hf;subst ht hj hf;obtain⟨jI,oO⟩:=hr;have jI:jx=⟨ri,false,rh,true,T8,XC,XD,XE⟩:=jI;have oO:kM=⟨c1,c2,c3,false,c5⟩:=oO;subst jI oO;refine VC.cQ L0 (show E0.func 28=some Tryz.f28 by kernel_rfl) (fun _ _=>rfl) rfl rfl [999999] ?_;refine wh ?_;refine⟨[],[some 2],_,_,_,_,bW,t3,cw ?_⟩
 refine⟨[],[],_,_,_,_,mq,t3,cw ?_⟩;refine sp ?_ ?_<;>intro h
 ·exact absurd (show(0:Int)<((0:Nat):Int)from h) (by decide)
 refine wh ?_;refine⟨[],[some 2],_,_,_,_,bW,t3,cw ?_⟩;refine⟨[],[some 0],_,_,_,_,dM,t3,cw ?_⟩;refine⟨[],[some 0],_,_,_,_,fT,t3,cw ?_⟩;refine sp ?_ ?_<;>intro gu
 ·exact absurd (show((0:Nat):Int)>0 from gu) (by decide)
 refine wh ?_;exact⟨[],[some 0],_,_,_,t3,rfl,rfl,rfl⟩
end Go.M
