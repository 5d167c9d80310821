/-
  Part 29 of the library that the proof leans on.
-/
import Derived.Test.YteoljjhhdgplnaaGreatDoorL12
import Derived.Test.YteoljjhhdgplnaaGreatDoorL28
namespace Go.M
open Go Go.Proofs
set_option maxRecDepth 100000
set_option maxHeartbeats 8000000
theorem abJ {l:List RS} {j:Nat} {x:RS}:(l.map iN).set j (iN x)=(l.set j x).map iN:=by rw[List.map_set]
theorem age {l:List RS} {j:Nat} {x:RS} (h:l[j]? =some x):(l.map iN).set j (iN x)=l.map iN:=by
 obtain⟨hj,rfl⟩:=List.getElem?_eq_some_iff.1 h;rw[←List.map_set,List.set_getElem_self hj]
theorem D6 {σ α:Type} (f:σ→α→σ) (s:σ) (l:List α) (i:Nat) (h:i<l.length):(l.take (i+1)).foldl f s=f ((l.take i).foldl f s) l[i]:=by
 rw[jT l i h,List.foldl_append];rfl
theorem P4 (n:Nat) (w:jq) (m:Lr):(mU n w m).all.length=w.all.length:=by
 have h1:∀w1:jq,(if 200<m.to then {w1 with told:=w1.told++[m]}else w1).all.length=w1.all.length:=fun w1=>by split<;>rfl
 unfold mU;rw[h1];split
 ·split
  ·simp
  ·rfl
 ·rfl
theorem sR (n:Nat):∀(l:List Lr) (w:jq),(l.foldl (mU n) w).all.length=w.all.length
 |[],_=>rfl
 |m::l,w=>by rw[List.foldl_cons,sR n l,P4]
theorem P5 (w:jq) (i:Nat):(vQ w i).all.length=w.all.length:=by
 unfold vQ;split
 ·simp
 ·rfl
theorem xC:∀(l:List Nat) (w:jq),(l.foldl vQ w).all.length=w.all.length
 |[],_=>rfl
 |m::l,w=>by rw[List.foldl_cons,xC l,P5]
theorem BJ (w:Wd) (r:Nat):l9 w (r+1)=M0 (l9 w r):=rfl
theorem P6 (w:Wd):(M0 w).1.length=w.1.length:=by
 show((List.range w.1.length).foldl vQ _).all.length=_;rw[xC];exact sR _ _ _
theorem D7 (w:Wd):∀r,(l9 w r).1.length=w.1.length
 |0=>rfl
 |r+1=>by rw[BJ,P6,D7 w r]
@[reducible] def D8 (w:Wd) (i:Nat):jq:=(w.2.1.take i).foldl (mU w.1.length) ⟨w.1,[],w.2.2⟩
@[reducible] def rS (w:Wd) (i:Nat):jq:=(List.range i).foldl vQ (Zf w)
theorem P7 (w:Wd) (i:Nat):(D8 w i).all.length=w.1.length:=sR _ _ _
theorem P8 (w:Wd) (i:Nat):(rS w i).all.length=w.1.length:=by unfold rS;rw[xC];exact sR _ _ _
theorem P9 (w:Wd):D8 w w.2.1.length=rS w 0:=by show List.foldl _ _ (w.2.1.take _)=_;rw[List.take_length];rfl
theorem LP (w:Wd) (i:Nat) (h:i<w.2.1.length):D8 w (i+1)=mU w.1.length (D8 w i) w.2.1[i]:=D6 _ _ _ i h
theorem LQ (w:Wd) (i:Nat):rS w (i+1)=vQ (rS w i) i:=by show List.foldl _ _ _=_;rw[List.range_succ,List.foldl_append];rfl
theorem abK {w:Wd} (h:XT w=true) {i:Nat} (hi:i<w.2.1.length):Nw w.1.length (D8 w i) w.2.1[i]=true:=by
 simp only[XT,Bool.and_eq_true]at h;exact oM h.2.1 i hi
theorem abL {w:Wd} (h:XT w=true) {i:Nat} (hi:i<w.1.length):abC (rS w i) i=true:=by
 simp only[XT,Bool.and_eq_true]at h;have:=oM h.2.2 i (by simpa using hi);rw[List.take_range,Nat.min_eq_left om,List.getElem_range]at this;exact this
theorem abM {w:Wd} (h:XT w=true):w.2.1.length≤1000:=by
 simp only[XT,Bool.and_eq_true,decide_eq_true_eq]at h;exact h.1
@[reducible] noncomputable def LR (l:List Lr):TO:=.arr 25 true (l.map bp)
theorem BK {n:Nat} {w:jq} {m:Lr} (h:¬(1≤m.to∧m.to≤n)) (h2:¬200<m.to):mU n w m=w:=by
 unfold mU;rw[if_neg h2,if_neg h]
theorem LU {n:Nat} {w:jq} {m:Lr} (h:¬(1≤m.to∧m.to≤n)) (h2:200<m.to):mU n w m={w with told:=w.told++[m]}:=by
 unfold mU;rw[if_pos h2,if_neg h]
theorem UQ {n:Nat} {all:List RS} {more told:List Lr} {m:Lr} {x:RS} (h:1≤m.to∧m.to≤n) (h2:¬200<m.to) (hx:all[(m.to - 1).toNat]? =some x):
 mU n ⟨all,more,told⟩ m=⟨all.set (m.to - 1).toNat (bE (iu x m)),more++(iu x m).out,told⟩:=by
 unfold mU;rw[if_neg h2,if_pos h];dsimp only;rw[hx]
theorem X7 (w0:Wd) (R:Nat) (hR:R≤100) (hn:w0.1.length≤100) (ht:w0.2.2=[]) (hk:okN w0 R=true):VC E0 10 1 [.tk 0,.sl 25 (w0.2.1.map bp) false,.s (.int .i64 R)] [(0,Jt w0.1)] (RR (.tk 1) 2 [(0,Jt (l9 w0 R).1),(1,LR (l9 w0 R).2.2)]):=by
 refine en L0 Tryz.f10 ?_;refine⟨fun kk f o c=>∃(r:Nat) (w:Wd),r≤R∧kk=R - r∧w=l9 w0 r∧c=2∧f=[(0,.tk 0),(1,.sl 25 (w.2.1.map bp) false),(2,.s (.int .i64 R)),(7,.tk 1),(8,.s (.int .i64 r))]∧o=[(0,Jt w.1),(1,LR w.2.2)],⟨R,?_⟩,?_⟩
 ·obtain⟨a0,s0,t0⟩:=w0;have ht:t0=[]:=ht;subst ht;exact⟨[],[some 0,none],_,_,_,t3,⟨0,(a0,s0,[]),Nat.zero_le _,rfl,rfl,rfl,rfl,rfl⟩⟩
 rintro kk f1 o1 c1 ⟨r,w,hr,rfl,hw,rfl,rfl,rfl⟩;refine wh ?_;refine sp ?_ ?_<;>intro bw;rotate_left
 ·have bw:¬(r:Int)<R:=bw;obtain rfl:r=R:=by omega
  subst hw;refine wh ?_;exact⟨[],[some 0,some 1],_,_,_,t3,rfl,rfl,rfl⟩
 have bw:(r:Int)<R:=bw;have h1:XT w=true:=by rw[hw];exact Um hk r om
 have hwl:w.1.length≤100:=by rw[hw,D7];exact hn
 have yM:=abM h1;have X8:l9 w0 (r+1)=((rS w w.1.length).all,(rS w w.1.length).more,(rS w w.1.length).told):=by rw[BJ,←hw];rfl
 refine wh ?_;refine⟨fun kk f o c=>∃(i:Nat) (a:jq),i≤w.2.1.length∧kk=w.2.1.length - i∧a=D8 w i∧c=3∧f=[(0,.tk 0),(1,.sl 25 (w.2.1.map bp) false),(2,.s (.int .i64 R)),(7,.tk 1),(8,.s (.int .i64 r)),(9,.tk 2),(10,.s (.int .i64 i))]∧o=[(0,Jt a.all),(1,LR a.told),(2,LR a.more)],⟨w.2.1.length,?_⟩,?_⟩
 ·exact⟨[],[some 0,some 1,none],_,_,_,t3,⟨0,⟨w.1,[],w.2.2⟩,Nat.zero_le _,rfl,rfl,rfl,rfl,rfl⟩⟩
 rintro kk f1 o1 c1 ⟨i,⟨all,more,told⟩,hi,rfl,ha,rfl,rfl,rfl⟩;refine wh ?_;refine sp ?_ ?_<;>intro nF;rotate_left
 ·have nF:¬i<w.2.1.length:=fun h=>nF (Iq.2 h);obtain rfl:i=w.2.1.length:=by omega
  rw[P9]at ha;rw[ha];clear ha;refine wh ?_;refine⟨fun kk f o c=>∃(i:Nat) (a:jq),i≤w.1.length∧kk=w.1.length - i∧a=rS w i∧c=3∧f=[(0,.tk 0),(2,.s (.int .i64 R)),(7,.tk 1),(8,.s (.int .i64 r)),(9,.tk 2),(12,.s (.int .i64 i))]∧o=[(0,Jt a.all),(1,LR a.told),(2,LR a.more)],⟨w.1.length,?_⟩,?_⟩
  ·exact⟨[],[some 0,some 1,some 2],_,_,_,t3,⟨0,rS w 0,Nat.zero_le _,rfl,rfl,rfl,rfl,rfl⟩⟩
  clear hi nF;rintro kk f1 o1 c1 ⟨i,⟨all,more,told⟩,hi,rfl,ha,rfl,rfl,rfl⟩;have dh:=P8 w i;have kZ:=LQ w i;rw[←ha]at dh kZ;have dh:all.length=w.1.length:=dh;have lM:IntKind.i64.wrap ((i:Int)+1)=((i+1:Nat):Int):=IntWalk.i64_in _ om;refine wh ?_;refine sp ?_ ?_<;>intro xD;rotate_left
  ·have xD:¬(i:Int)<(all.map iN).length:=xD;rw[List.length_map,dh]at xD;obtain rfl:i=w.1.length:=by omega
   have lM:IntKind.i64.wrap ((r:Int)+1)=((r+1:Nat):Int):=IntWalk.i64_in _ om;rw[←ha]at X8;refine wh ?_;rw[lM];refine⟨R - (r+1),?_,om⟩;exact⟨[2],[some 0,some 1],_,_,_,t3,⟨r+1,(all,more,told),om,rfl,X8.symm,rfl,rfl,rfl⟩⟩
  have xD:(i:Int)<(all.map iN).length:=xD;rw[List.length_map,dh]at xD;have k9:=abL h1 (i:=i) om;rw[←ha]at k9;obtain⟨x,gx⟩:∃x,all[i]? =some x:=⟨_,List.getElem?_eq_getElem om⟩;have gi:(all.map iN)[(i:Int).toNat]? =some (iN x):=by simp[gx]
  simp only[abC,vQ,gx,Bool.and_eq_true,decide_eq_true_eq,List.isEmpty_iff]at k9 kZ;obtain⟨hml,Gw,P3,Vr⟩:=k9;have D9:=Bz Gw;refine wh ?_;refine⟨⟨om,by rw[List.length_map];omega⟩,?_⟩;refine wh ?_;refine⟨iN x,gi,?_⟩;refine wh ?_;refine⟨[],[some 3],_,_,_,_,D9,t3,?_⟩;rintro rr o' c' (⟨hs0,rfl,rfl,rfl⟩|⟨B4,rfl,rfl,rfl⟩)
  ·have htx:cq x=x:=by unfold cq;rw[if_pos hs0]
   have LV:bE x=x:=by obtain⟨x1,x2,x3,x4,x5,x6,x7,x8,x9,xa,xb,xc⟩:=x;cases Vr;rfl
   have bz:all.set i x=all:=by obtain⟨hj,rfl⟩:=List.getElem?_eq_some_iff.1 gx;exact List.set_getElem_self hj
   rw[htx,LV,Vr,bz,List.append_nil]at kZ;refine wh ?_;refine⟨by simp;omega,?_⟩;refine wh ?_;rw[lM];refine⟨w.1.length - (i+1),?_,om⟩;refine⟨[],[some 0,some 1,some 5],_,_,_,⟨tq,.cons (.cF (oQ:=[(_,iN x)]) .one (Lw.of (age gx)) (.q1 tq)) (.cons (.arr Lz.rfl) (.cons (.arr (Lz.of (List.append_nil _))) .nil)),by rfl⟩,⟨i+1,⟨all,more,told⟩,om,rfl,kZ.symm,rfl,rfl,rfl⟩⟩
  ·refine wh ?_;refine⟨by simp;omega,?_⟩;refine wh ?_;rw[lM];refine⟨w.1.length - (i+1),?_,om⟩;refine⟨[],[some 0,some 1,some 6],_,_,_,⟨tq,.cons (.cF (oQ:=[(_,iN (bE (cq x)))]) .one (Lw.of abJ) (.q1 tq)) (.cons (.arr Lz.rfl) (.cons (.arr (Lz.of List.map_append.symm)) .nil)),by rfl⟩,⟨i+1,_,om,rfl,kZ.symm,rfl,rfl,rfl⟩⟩
 have nF:i<w.2.1.length:=Iq.1 nF;have k9:=abK h1 nF;have kZ:=LP w i nF;have dh:=P7 w i;rw[←ha]at k9 kZ dh;have dh:all.length=w.1.length:=dh;have gs:(w.2.1.map bp)[(i:Int).toNat]? =some (bp w.2.1[i]):=by simp[nF]
 generalize w.2.1[i]=m at k9 kZ gs;have lM:IntKind.i64.wrap ((i:Int)+1)=((i+1:Nat):Int):=IntWalk.i64_in _ om;refine wh ?_;refine⟨bp m,⟨om,gs⟩,?_⟩;refine wh ?_;refine sp ?_ ?_<;>intro g1;rotate_left
 ·have g1:¬m.to≥1:=g1;rw[BK om om]at kZ;refine wh ?_;refine sp ?_ ?_<;>intro g3
  ·have g3:m.to>200:=g3;omega
  refine wh ?_;rw[lM];refine⟨w.2.1.length - (i+1),?_,om⟩;exact⟨[],[some 0,some 1,some 2],_,_,_,t3,⟨i+1,⟨all,more,told⟩,om,rfl,kZ.symm,rfl,rfl,rfl⟩⟩
 have g1:m.to≥1:=g1;refine wh ?_;refine sp ?_ ?_<;>intro g2;rotate_left
 ·have g2:¬m.to≤(all.map iN).length:=g2;rw[List.length_map,dh]at g2;refine wh ?_;refine sp ?_ ?_<;>intro g3;rotate_left
  ·have g3:¬m.to>200:=g3;rw[BK om om]at kZ;refine wh ?_;rw[lM];refine⟨w.2.1.length - (i+1),?_,om⟩;exact⟨[],[some 0,some 1,some 2],_,_,_,t3,⟨i+1,⟨all,more,told⟩,om,rfl,kZ.symm,rfl,rfl,rfl⟩⟩
  have g3:m.to>200:=g3;rw[LU om om]at kZ;have htl:told.length≤1000:=by simp only[Nw,Bool.and_eq_true,decide_eq_true_eq]at k9;exact k9.2.1
  refine wh ?_;refine⟨bp m,⟨om,gs⟩,?_⟩;refine wh ?_;refine⟨by simp;omega,?_⟩;refine wh ?_;rw[lM];refine⟨w.2.1.length - (i+1),?_,om⟩;refine⟨[],[some 0,some 4,some 2],?_⟩
  iterate 3 constructor
  refine⟨⟨?_,?_,?_⟩,⟨i+1,⟨all,more,told++[m]⟩,om,rfl,kZ.symm,rfl,rfl,rfl⟩⟩
  all_goals(repeat' first|exact LF|constructor)
  all_goals exact Lz.of (by rw[List.map_append];rfl)
 have g2:m.to≤(all.map iN).length:=g2;rw[List.length_map,dh]at g2;obtain⟨k,hkt⟩:∃k:Nat,m.to=k+1:=⟨(m.to - 1).toNat,om⟩;have hwk:IntKind.i64.wrap (m.to - 1)=(k:Int):=by rw[IntWalk.i64_in _ om];omega
 have qL:(m.to - 1).toNat=k:=by omega
 obtain⟨x,gx⟩:∃x,all[k]? =some x:=⟨_,List.getElem?_eq_getElem om⟩;have gk:(all.map iN)[(k:Int).toNat]? =some (iN x):=by simp[gx]
 simp only[Nw,if_pos (show 1≤m.to∧m.to≤w.1.length from⟨g1,g2⟩),qL,gx,Bool.and_eq_true,decide_eq_true_eq]at k9;obtain⟨hml,htl,Gw,P3⟩:=k9;rw[UQ ⟨g1,g2⟩ om (qL▸gx),qL]at kZ;have tK:=Ge Gw;refine wh ?_;rw[hwk];refine⟨⟨om,by rw[List.length_map];omega⟩,?_⟩;refine wh ?_;refine⟨iN x,gk,?_⟩;refine wh ?_;refine⟨bp m,⟨om,gs⟩,?_⟩;refine wh ?_;refine⟨[],[some 3],_,_,_,_,tK,t3,cw ?_⟩;refine⟨by simp;omega,?_⟩;refine wh ?_;refine sp ?_ ?_<;>intro g3
 ·have g3:m.to>200:=g3;omega
 refine wh ?_;rw[lM];refine⟨w.2.1.length - (i+1),?_,om⟩;refine⟨[],[some 0,some 1,some 6],_,_,_,⟨tq,.cons (.cF (oQ:=[(_,iN (bE (iu x m)))]) .one (Lw.of abJ) (.q1 tq)) (.cons (.arr Lz.rfl) (.cons (.arr (Lz.of List.map_append.symm)) .nil)),by rfl⟩,⟨i+1,_,om,rfl,kZ.symm,rfl,rfl,rfl⟩⟩
end Go.M
