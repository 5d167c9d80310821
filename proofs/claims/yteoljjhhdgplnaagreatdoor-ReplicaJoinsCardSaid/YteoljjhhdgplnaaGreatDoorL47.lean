/-
  Part 47 of the library that the proof leans on.
-/
import Derived.Test.YteoljjhhdgplnaaGreatDoorL12
import Derived.Test.YteoljjhhdgplnaaGreatDoorL31
import Derived.Test.YteoljjhhdgplnaaGreatDoorL29
import Derived.Test.YteoljjhhdgplnaaGreatDoorL46
namespace Go.M
open Go Go.Proofs
set_option maxRecDepth 100000
set_option maxHeartbeats 8000000
@[reducible] def wI (n:Nat) (all:List RS):WJ:=⟨all.map fun x=>⟨x,none⟩,X2 ((n:Int)+1),[]⟩
theorem esI (all:List RS):all.map iN++[[Ja]]=nS (all.map fun x=>⟨x,none⟩):=by
 show _=(all.map fun x=>(⟨x,none⟩:RJ)).map s7++[[Ja]];rw[List.map_map];rfl
@[reducible] noncomputable def oA (n:Nat) (w:WJ) (o:Ob):Ob:=(0,.cF 1 (nS w.all) [(n,[.ptr 1 0])])::(1,ie w.late)::o
theorem ach (n:Nat) (h:n∈[1,2,3,4]):bV (iY n):=by
 simp only[List.mem_cons,List.not_mem_nil,or_false]at h;rcases h with rfl |rfl |rfl |rfl<;>decide+kernel
theorem aci (n:Nat) (h:n∈[1,2,3,4]):bV (iZ n):=by
 simp only[List.mem_cons,List.not_mem_nil,or_false]at h;rcases h with rfl |rfl |rfl |rfl<;>decide+kernel
theorem acj (nn ww:Int) (hw:0≤ww∧ww≤255):VC E0 5 0 [.s (.int .i64 nn),.s (.int .u8 ww)] [] (fun r _ _=>r= .s (.bool true)):=by
 refine en L0 Tryz.f5 ?_;refine sp ?_ ?_<;>intro h1
 ·refine wh ?_;refine⟨[],[],_,_,_,_,xE,t3,cw ?_⟩;exact⟨[],[],_,_,_,t3,rfl⟩
 have h1:¬nn<1:=h1;refine wh ?_;refine sp ?_ ?_<;>intro h2
 ·refine wh ?_;refine⟨[],[],_,_,_,_,xE,t3,cw ?_⟩;exact⟨[],[],_,_,_,t3,rfl⟩
 have h2:¬nn>4:=h2;obtain⟨n,rfl⟩:∃n:Nat,nn=n:=⟨nn.toNat,om⟩;have hn:n∈[1,2,3,4]:=by simp;omega
 have hn5:n∈[1,2,3,4,5]:=by simp;omega
 obtain⟨v,hv,hvw⟩:∃v:Nat,v<90∧(v:Int)=ww % 90:=⟨(ww % 90).toNat,om,om⟩;have Qq:IntKind.i64.wrap ww=ww:=IntWalk.i64_in _ om;have Gz:ww.tmod 90=ww % 90:=Int.tmod_eq_emod_of_nonneg hw.1;refine wh ?_;refine⟨[],[],_,_,_,_,UP n hn5,t3,cw ?_⟩;rw[Qq,Gz,←hvw];refine⟨fun kk f o c=>∃(k:Nat) (all:List RS),k≤v∧kk=v - k∧all=Gm n k∧c=2∧f=[(0,.s (.int .i64 n)),(5,.ptr 0 0),(6,.tk 1),(7,.s (.int .i64 v)),(8,.s (.int .i64 ((k:Int)+1)))]∧o=[(0,.cells (dm (eU n))),(1,Jt all)],⟨v,?_⟩,?_⟩
 ·exact⟨[],[some 1,some 0],_,_,_,t3,⟨0,FE n,Nat.zero_le _,rfl,rfl,rfl,rfl,rfl⟩⟩
 rintro kk f1 o1 c1 ⟨k,all,hk,rfl,ha,rfl,rfl,rfl⟩;refine wh ?_;refine sp ?_ ?_<;>intro bw;rotate_left
 ·have bw:¬(k:Int)+1≤v:=bw;obtain rfl:k=v:=by omega
  clear bw hk;have BN:=UU hn hv;rw[←ha]at BN;clear ha;have hw4:IntKind.i64.wrap ((n:Int)+1)=(n:Int)+1:=IntWalk.i64_in _ om;have hwv:IntKind.u64.wrap (k:Int)=k:=IntWalk.u64_in _ om;have hw5:IntKind.i64.wrap ((n:Int) - 1)=((n - 1:Nat):Int):=by rw[IntWalk.i64_in _ om];omega
  simp only[abI,Bool.and_eq_true,decide_eq_true_eq]at BN;obtain⟨dh,aj3,aj4,BN⟩:=BN;generalize Z6:yG n 60 (w2J n all)=p2 at BN;obtain⟨w2,b2⟩:=p2;dsimp only at BN;obtain⟨uO,RW,BN⟩:=BN;generalize hf3:yG n 6 (w3J n w2)=p3 at BN;obtain⟨w3,b3⟩:=p3;dsimp only at BN;obtain⟨Me,Ro⟩:=BN;obtain⟨ht2,tu⟩:=BH (n:=n) (r:=60) (w:=w2J n all) (by rw[Z6];exact uO);obtain⟨ht3,hk3⟩:=BH (n:=n) (r:=6) (w:=w3J n w2) (by rw[hf3];exact Me);rw[Z6]at ht2;rw[hf3]at ht3;have hnZ:=UF ((n:Int)+1) om;refine wh ?_;rw[hw4];refine⟨[],[],_,_,_,_,hnZ,t3,cw ?_⟩;refine⟨by simp;omega,?_⟩;refine wh ?_
  rw[hw4];have hAI:∀x∈(wI n all).all,x.g=none∧rQ x.r (iY n)=true:=fun x hx=>by
   obtain⟨y,hy,rfl⟩:=List.mem_map.1 hx;exact⟨rfl,List.all_eq_true.1 aj3 y hy⟩
  have hLI:(wI n all).all.length=n:=by rw[List.length_map];exact dh
  have hRJ:=ach n hn;have hRK:=aci n hn;refine⟨fun kk f o c=>∃(i:Nat) (w:WJ),i≤n+1∧kk=n+1 - i∧w=BL n (iY n) (wI n all) i∧c=4∧f=[(0,.s (.int .i64 n)),(5,.ptr 2 0),(6,.tk 0),(7,.s (.int .i64 k)),(9,.ptr 1 0),(11,.ptr 3 0),(12,.s (.int .i64 i))]∧o=oA n w [(2,.cells (dm (eU n))),(3,.cells (dm (iY n)))],⟨n+1,?_⟩,?_⟩
  ·refine⟨[],[some 4,some 2,some 0,some 5],_,_,_,⟨tq,.cons (.aef (Lz.of (esI all)) (Lz.of (by simp;omega)) tq) (.cons tq (.cons tq (.cons tq .nil))),by rfl⟩,⟨0,wI n all,Nat.zero_le _,rfl,rfl,rfl,rfl,rfl⟩⟩
  rintro kk f1 o1 c1 ⟨i,⟨nT,mg,Jw⟩,hi,rfl,yV,rfl,rfl,rfl⟩;refine wh ?_;refine sp ?_ ?_<;>intro bw
  ·have bw:(i:Int)≤n:=bw;have BU:IntKind.i64.wrap ((i:Int)+1)=((i+1:Nat):Int):=IntWalk.i64_in _ om;have ack:nT.length=n:=by have:=NG (c:=(iY n)) hLI i;rw[←yV]at this;exact this
   refine wh ?_;refine⟨⟨om,by rw[k8,ack];omega⟩,?_⟩;refine wh ?_;refine⟨fun hz=>?_,fun hz=>?_⟩
   ·have hz:(i:Int).toNat=n:=hz;have Gv:i=n:=by omega
    have v5:mg=((wI n all)).late:=by have:=rT (c:=(iY n)) (w:=(wI n all)) (show i≤n by omega);rw[←yV]at this;exact this
    have nX:=Jv (c:=(iY n)) hLI;rw[Gv]at yV;rw[←yV,←v5]at nX;have hca:=sQ (x:=mg) hRJ (by rw[v5];exact aj4);refine wh ?_;refine⟨[],[some 1],_,_,_,_,hca,t3,cw ?_⟩;rw[BU];refine⟨n+1 - (i+1),?_,om⟩;refine⟨[],[some 0,some 1,some 2,some 3],_,_,_,⟨tq,.cons (.B6 Lz.rfl (.cons tq .nil)) (.cons tq (.cons tq (.cons tq .nil))),by rfl⟩,⟨i+1,⟨nT,bE (gq mg (iY n)),[]⟩,om,rfl,by rw[Gv];exact nX,rfl,rfl,rfl⟩⟩
   ·have hz:¬(i:Int).toNat=n:=hz;obtain⟨x,gx⟩:∃x,((wI n all)).all[i]? =some x:=⟨_,List.getElem?_eq_getElem om⟩;have gx':nT[i]? =some x:=by have:=NH (c:=(iY n)) (i:=i) hLI om;rw[←yV]at this;exact this.trans gx
    have gi:(nS nT)[(i:Int).toNat]? =some (s7 x):=by rw[show(i:Int).toNat=i from Int.toNat_natCast i];exact sS gx'
    have nX:=US (c:=(iY n)) hLI om gx;have v5:mg=((wI n all)).late:=by have:=rT (c:=(iY n)) (w:=(wI n all)) (show i≤n by omega);rw[←yV]at this;exact this
    rw[←yV,←v5]at nX;obtain⟨hg,hb⟩:=hAI x (List.mem_of_getElem? gx);obtain⟨xr,xg⟩:=x;have hg:xg=none:=hg;subst hg;have hca:=sQ hRJ hb;refine⟨s7 ⟨xr,none⟩,gi,?_⟩;refine wh ?_;refine⟨[],[some 4],_,_,_,_,hca,t3,cw ?_⟩;rw[BU];refine⟨n+1 - (i+1),?_,om⟩;have bz:(nS nT).set i [.own (ie (bE (gq xr (iY n))))]=nS (nT.set i (NB ⟨xr,none⟩ (iY n))):=jz (l:=nT) (j:=i) (x:=NB ⟨xr,none⟩ (iY n)) om;refine⟨[],[some 0,some 1,some 2,some 3],_,_,_,⟨tq,.cons (.yQ hz (Lw.of bz) tq tq) (.cons tq (.cons tq (.cons tq .nil))),by rfl⟩,⟨i+1,⟨nT.set i (NB ⟨xr,none⟩ (iY n)),mg,[]⟩,om,rfl,nX,rfl,rfl,rfl⟩⟩
  have bw:¬(i:Int)≤n:=bw;obtain rfl:i=n+1:=by omega
  have Gz:(⟨nT,mg,Jw⟩:WJ)=w2J n all:=by
   rw[yV,NF hLI];show(⟨(all.map fun x=>(⟨x,none⟩:RJ)).map fun x=>NB x (iY n),_,[]⟩:WJ)=_;rw[List.map_map];rfl
  rw[Gz];clear Gz yV nT mg Jw hi bw;have tT:=Ju n (w2J n all) 60 (by decide) om (by show(all.map _).length=n;rw[List.length_map];exact dh) rfl tu;have ht2:turns n (w2J n all) 60=w2:=ht2;rw[ht2]at tT;simp only[mid,Bool.and_eq_true,decide_eq_true_eq,Bool.not_eq_true']at RW;obtain⟨zE,Yv,hm3,NY,hm5,hm6⟩:=RW;have Yv:∀x∈w2.all,x.g=none∧rQ x.r (iZ n)=true:=fun x hx=>by
   have:=List.all_eq_true.1 Yv x hx;rw[Bool.and_eq_true]at this;exact⟨jX this.1,this.2⟩
  obtain⟨t,gt⟩:∃t,w2.all[n - 1]? =some t:=⟨_,List.getElem?_eq_getElem om⟩;have gi:(nS w2.all)[((n - 1:Nat):Int).toNat]? =some (s7 t):=by rw[Int.toNat_natCast];exact sS gt
  rw[gt]at NY;simp only[Bool.and_eq_true]at NY;have htg:=(Yv t (List.mem_of_getElem? gt)).1;have bz:=jz (l:=w2.all) (j:=n - 1) (x:=t) om;rw[show w2.all.set (n - 1) t=w2.all by obtain⟨hj,rfl⟩:=List.getElem?_eq_some_iff.1 gt;exact List.set_getElem_self hj]at bz;obtain⟨tr,tg⟩:=t;have htg:tg=none:=htg;subst htg;have bz:(nS w2.all).set (n - 1) [.own (ie tr)]=nS w2.all:=bz;have bW:=NC w2.late;rw[hm5]at bW;have Qd:=ND w2.late;rw[hm6]at Qd;have u4:(eU n).nodes.length=n:=by show((List.range n).map _).length=n;rw[List.length_map,List.length_range]
  have agZ:=Qc tr NY.1 NY.2;refine wh ?_;refine⟨[],[some 0,some 1],_,_,_,_,tT,t3,cw ?_⟩;rw[hw5];refine⟨⟨om,by rw[k8,zE];omega⟩,?_⟩;refine wh ?_;refine⟨fun hz=>?_,fun hz=>?_⟩
  ·have hz:((n - 1:Nat):Int).toNat=n:=hz;omega
  have hz:¬((n - 1:Nat):Int).toNat=n:=hz;refine⟨s7 ⟨tr,none⟩,gi,?_⟩;refine wh ?_;refine⟨[],[some 6],_,_,_,_,agZ,t3,cw ?_⟩;refine⟨[],[some 1],_,_,_,_,bW,t3,cw ?_⟩;rw[hwv];refine sp ?_ ?_<;>intro bC
  ·exact absurd rfl bC
  refine wh ?_;refine⟨[],[some 1],_,_,_,_,Qd,t3,cw ?_⟩;refine⟨by simp;omega,?_⟩;refine wh ?_;rw[hw4];refine⟨by simp;omega,?_⟩;refine wh ?_;have Ap:(eU n).nodes.map fo++[[.s (.int .i64 ((n:Int)+1))]]=(iZ n).nodes.map fo:=by
   show _=((eU n).nodes++[(n:Int)+1]).map fo;rw[List.map_append];rfl
  refine⟨fun kk f o c=>∃(i:Nat) (w:WJ),i≤n+1∧kk=n+1 - i∧w=BL n (iZ n) w2 i∧c=3∧f=[(0,.s (.int .i64 n)),(6,.tk 0),(7,.s (.int .i64 k)),(9,.ptr 1 0),(13,.ptr 2 0),(14,.s (.int .i64 i))]∧o=oA n w [(2,.cells (dm (iZ n)))],⟨n+1,?_⟩,?_⟩
  ·refine⟨[13],[some 0,some 1,some 10],_,_,_,⟨tq,.cons (.yQ hz (Lw.of bz) tq tq) (.cons tq (.cons (by((repeat' first|exact LF|constructor);all_goals exact Lz.of Ap)) .nil)),by rfl⟩,⟨0,⟨w2.all,w2.late,[]⟩,Nat.zero_le _,rfl,rfl,rfl,rfl,rfl⟩⟩
  clear hz bz gi gt bW Qd agZ NY Ap htg;rintro kk f1 o1 c1 ⟨i,⟨nT,mg,Jw⟩,hi,rfl,yV,rfl,rfl,rfl⟩;refine wh ?_;refine sp ?_ ?_<;>intro bw
  ·have bw:(i:Int)≤n:=bw;have BU:IntKind.i64.wrap ((i:Int)+1)=((i+1:Nat):Int):=IntWalk.i64_in _ om;have ack:nT.length=n:=by have:=NG (c:=(iZ n)) zE i;rw[←yV]at this;exact this
   refine wh ?_;refine⟨⟨om,by rw[k8,ack];omega⟩,?_⟩;refine wh ?_;refine⟨fun hz=>?_,fun hz=>?_⟩
   ·have hz:(i:Int).toNat=n:=hz;have Gv:i=n:=by omega
    have v5:mg=(w2).late:=by have:=rT (c:=(iZ n)) (w:=w2) (show i≤n by omega);rw[←yV]at this;exact this
    have nX:=Jv (c:=(iZ n)) zE;rw[Gv]at yV;rw[←yV,←v5]at nX;have hca:=sQ (x:=mg) hRK (by rw[v5];exact hm3);refine wh ?_;refine⟨[],[some 1],_,_,_,_,hca,t3,cw ?_⟩;rw[BU];refine⟨n+1 - (i+1),?_,om⟩;refine⟨[],[some 0,some 1,some 2],_,_,_,⟨tq,.cons (.B6 Lz.rfl (.cons tq .nil)) (.cons tq (.cons tq .nil)),by rfl⟩,⟨i+1,⟨nT,bE (gq mg (iZ n)),[]⟩,om,rfl,by rw[Gv];exact nX,rfl,rfl,rfl⟩⟩
   ·have hz:¬(i:Int).toNat=n:=hz;obtain⟨x,gx⟩:∃x,(w2).all[i]? =some x:=⟨_,List.getElem?_eq_getElem om⟩;have gx':nT[i]? =some x:=by have:=NH (c:=(iZ n)) (i:=i) zE om;rw[←yV]at this;exact this.trans gx
    have gi:(nS nT)[(i:Int).toNat]? =some (s7 x):=by rw[show(i:Int).toNat=i from Int.toNat_natCast i];exact sS gx'
    have nX:=US (c:=(iZ n)) zE om gx;have v5:mg=(w2).late:=by have:=rT (c:=(iZ n)) (w:=w2) (show i≤n by omega);rw[←yV]at this;exact this
    rw[←yV,←v5]at nX;obtain⟨hg,hb⟩:=Yv x (List.mem_of_getElem? gx);obtain⟨xr,xg⟩:=x;have hg:xg=none:=hg;subst hg;have hca:=sQ hRK hb;refine⟨s7 ⟨xr,none⟩,gi,?_⟩;refine wh ?_;refine⟨[],[some 3],_,_,_,_,hca,t3,cw ?_⟩;rw[BU];refine⟨n+1 - (i+1),?_,om⟩;have bz:(nS nT).set i [.own (ie (bE (gq xr (iZ n))))]=nS (nT.set i (NB ⟨xr,none⟩ (iZ n))):=jz (l:=nT) (j:=i) (x:=NB ⟨xr,none⟩ (iZ n)) om;refine⟨[],[some 0,some 1,some 2],_,_,_,⟨tq,.cons (.yQ hz (Lw.of bz) tq tq) (.cons tq (.cons tq .nil)),by rfl⟩,⟨i+1,⟨nT.set i (NB ⟨xr,none⟩ (iZ n)),mg,[]⟩,om,rfl,nX,rfl,rfl,rfl⟩⟩
  have bw:¬(i:Int)≤n:=bw;obtain rfl:i=n+1:=by omega
  have Co:(⟨nT,mg,Jw⟩:WJ)=w3J n w2:=by rw[yV,NF zE];rfl
  rw[Co];clear Co yV nT mg Jw hi bw;have Vu:=Ju n (w3J n w2) 6 (by decide) om (by show(w2.all.map _).length=n;rw[List.length_map];exact zE) rfl hk3;have ht3:turns n (w3J n w2) 6=w3:=ht3;rw[ht3]at Vu;simp only[agb,Bool.and_eq_true,decide_eq_true_eq]at Ro;obtain⟨hf1,Yn,acn,hf4,hf5⟩:=Ro;obtain⟨h,gh⟩:∃h,w3.all[0]? =some h:=⟨_,List.getElem?_eq_getElem om⟩;have gi:(nS w3.all)[(0:Int).toNat]? =some (s7 h):=sS gh;rw[gh]at hf5;simp only[LO,Bool.and_eq_true,decide_eq_true_eq]at hf5;obtain⟨hf5,⟨hf6,hf7⟩,⟨hf8,hf9⟩,hfA⟩:=hf5;obtain⟨hr_,hg_⟩:=h;have hf5:hg_=none:=jX hf5;subst hf5;rw[Gk]at hf7 hfA
  rw[Gk]at hfA;have Qd:=ND w3.late;rw[Yn]at Qd;have aj8:=Yd w3.late;have bW:=NC w3.late;rw[hf4]at bW;have PC:=F4 w3.late.st (BA hf6);have Zk:=F4 hr_.st (BA hf8);rw[show oL hr_.st=oL w3.late.st from hfA.symm]at Zk;have kI:=X4 (oL w3.late.st) hf7;have aj9:=BI w3.late;obtain⟨wall,⟨ln,lc,⟨li,lj,lh,lt,lw,lpl,lpr,lsu⟩,lst,anP,alF,aka,anQ,lkn,alG,anR,anS⟩,alH⟩:=w3;have Yn:aka=true:=Yn;have acn:lt=true:=acn;subst Yn acn;refine wh ?_;refine⟨[],[some 0,some 1],_,_,_,_,Vu,t3,cw ?_⟩;refine⟨[],[some 1],_,_,_,_,Qd,t3,cw ?_⟩;refine⟨[],[some 1],_,_,_,_,aj8,t3,cw ?_⟩;refine⟨[],[some 1],_,_,_,_,bW,t3,cw ?_⟩
  rw[hwv];refine sp ?_ ?_<;>intro bC;rotate_left
  ·exact absurd rfl bC
  refine wh ?_;refine⟨[],[some 1],_,_,_,_,aj9,t3,cw ?_⟩;refine⟨[],[some 9],_,_,_,_,PC,t3,cw ?_⟩;refine⟨⟨by decide,by rw[k8];omega⟩,?_⟩;refine wh ?_;refine⟨fun hz=>?_,fun hz=>?_⟩
  ·have hz:(0:Int).toNat=n:=hz;have hz:0=n:=hz;omega
  refine⟨s7 ⟨hr_,none⟩,gi,?_⟩;refine wh ?_;refine⟨[],[some 11],_,_,_,_,BI hr_,t3,cw ?_⟩;refine⟨[],[some 13],_,_,_,_,Zk,t3,cw ?_⟩;refine⟨[],[],_,_,_,_,kI,t3,cw ?_⟩;refine⟨[],[],_,_,_,_,xE,t3,cw ?_⟩;exact⟨[],[],_,_,_,t3,rfl⟩
 have bw:(k:Int)+1≤v:=bw;have bz:=Ym hn (i:=k) om;have GB:Gm n (k+1)=(l9 (tJ n (Gm n k) (k+1)) (2*n+2)).1:=rfl;simp only[okP,Bool.and_eq_true,decide_eq_true_eq]at bz;obtain⟨dh,hsy,k9⟩:=bz;rw[←ha]at dh hsy k9 GB;clear ha;obtain⟨x,gx⟩:∃x,all[0]? =some x:=⟨_,List.getElem?_eq_getElem om⟩;have gi:(all.map iN)[(0:Int).toNat]? =some (iN x):=by simp[gx]
 have YS:tJ n all (k+1)=(all.set 0 (bE (iu x (nM (eU n) 1 1 (k+1:Nat)))),(iu x (nM (eU n) 1 1 (k+1:Nat))).out,[]):=by unfold tJ;rw[gx]
 simp only[UK,gx]at hsy;have H7:=Ge hsy;have hm3:IntKind.u64.wrap ((k:Int)+1)=((k+1:Nat):Int):=IntWalk.u64_in _ om;have NY:IntKind.i64.wrap (IntKind.i64.wrap (2*(n:Int))+2)=((2*n+2:Nat):Int):=by rw[IntWalk.i64_in (2*(n:Int)) om];exact IntWalk.i64_in _ om
 refine wh ?_;refine⟨⟨om,by rw[List.length_map];omega⟩,?_⟩;refine wh ?_;refine⟨iN x,gi,?_⟩;refine wh ?_;rw[hm3];refine⟨[],[],_,_,_,_,UN (eU n) 1 1 (k+1:Nat) om om,t3,cw ?_⟩;have hwl:(tJ n all (k+1)).1.length=n:=by rw[YS];show(all.set 0 _).length=n;rw[List.length_set];exact dh
 have NM:=X7 (tJ n all (k+1)) (2*n+2) om om (by rw[YS]) k9;generalize l9 (tJ n all (k+1)) (2*n+2)=wf at NM GB;rw[YS]at NM;clear k9 YS hwl hsy;generalize iu x (nM (eU n) 1 1 (k+1:Nat))=y at H7 NM;refine⟨[],[some 2],_,_,_,_,H7,t3,cw ?_⟩;rw[NY];refine⟨[4],[some 1],_,_,_,_,NM,⟨tq,.cons (.cF (oQ:=[(_,iN (bE y))]) .one (Lw.of abJ) (.q1 tq)) .nil,by rfl⟩,?_⟩;rintro r o' c' ⟨rfl,rfl,rfl⟩;have Co:IntKind.i64.wrap ((k:Int)+1+1)=((k+1:Nat):Int)+1:=IntWalk.i64_in _ om;refine wh ?_;rw[Co];refine⟨v - (k+1),?_,om⟩;exact⟨[],[some 0,some 1],_,_,_,t3,⟨k+1,wf.1,om,rfl,GB.symm,rfl,rfl,rfl⟩⟩
end Go.M
