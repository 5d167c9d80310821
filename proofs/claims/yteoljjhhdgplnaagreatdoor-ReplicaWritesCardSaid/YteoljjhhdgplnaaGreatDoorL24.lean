/-
  Part 24 of the library that the proof leans on.
-/
import Derived.Test.YteoljjhhdgplnaaGreatDoorL12
import Derived.Test.YteoljjhhdgplnaaGreatDoorL23
namespace Go.M
open Go Go.Proofs
set_option maxRecDepth 100000
set_option maxHeartbeats 8000000
theorem TA {l:List RS} {j:Nat} {x:RS}:(l.map dP).set j (dP x)=(l.set j x).map dP:=by rw[List.map_set]
theorem Gw {l:List RS} {j:Nat} {x:RS} (h:l[j]? =some x):(l.map dP).set j (dP x)=l.map dP:=by
 obtain⟨hj,rfl⟩:=List.getElem?_eq_some_iff.1 h;rw[←List.map_set,List.set_getElem_self hj]
theorem IN {σ α:Type} (f:σ→α→σ) (s:σ) (l:List α) (i:Nat) (h:i<l.length):(l.take (i+1)).foldl f s=f ((l.take i).foldl f s) l[i]:=by
 rw[ji l i h,List.foldl_append];rfl
theorem IP (n:Nat) (w:gL) (m:Lr):(j8 n w m).all.length=w.all.length:=by
 have h1:∀w1:gL,(if 200<m.to then {w1 with told:=w1.told++[m]}else w1).all.length=w1.all.length:=fun w1=>by split<;>rfl
 unfold j8;rw[h1];split
 ·split
  ·simp
  ·rfl
 ·rfl
theorem oi (n:Nat):∀(l:List Lr) (w:gL),(l.foldl (j8 n) w).all.length=w.all.length
 |[],_=>rfl
 |m::l,w=>by rw[List.foldl_cons,oi n l,IP]
theorem IQ (w:gL) (i:Nat):(qG w i).all.length=w.all.length:=by
 unfold qG;split
 ·simp
 ·rfl
theorem sq:∀(l:List Nat) (w:gL),(l.foldl qG w).all.length=w.all.length
 |[],_=>rfl
 |m::l,w=>by rw[List.foldl_cons,sq l,IQ]
theorem wi (w:Wd) (r:Nat):iW w (r+1)=FW (iW w r):=rfl
theorem IS (w:Wd):(FW w).1.length=w.1.length:=by
 show((List.range w.1.length).foldl qG _).all.length=_;rw[sq];exact oi _ _ _
theorem yO (w:Wd):∀r,(iW w r).1.length=w.1.length
 |0=>rfl
 |r+1=>by rw[wi,IS,yO w r]
@[reducible] def yP (w:Wd) (i:Nat):gL:=(w.2.1.take i).foldl (j8 w.1.length) ⟨w.1,[],w.2.2⟩
@[reducible] def nF (w:Wd) (i:Nat):gL:=(List.range i).foldl qG (QT w)
theorem IT (w:Wd) (i:Nat):(yP w i).all.length=w.1.length:=oi _ _ _
theorem IU (w:Wd) (i:Nat):(nF w i).all.length=w.1.length:=by unfold nF;rw[sq];exact oi _ _ _
theorem IV (w:Wd):yP w w.2.1.length=nF w 0:=by show List.foldl _ _ (w.2.1.take _)=_;rw[List.take_length];rfl
theorem EJ (w:Wd) (i:Nat) (h:i<w.2.1.length):yP w (i+1)=j8 w.1.length (yP w i) w.2.1[i]:=IN _ _ _ i h
theorem EK (w:Wd) (i:Nat):nF w (i+1)=qG (nF w i) i:=by show List.foldl _ _ _=_;rw[List.range_succ,List.foldl_append];rfl
theorem TB {w:Wd} (h:PM w=true) {i:Nat} (hi:i<w.2.1.length):Gu w.1.length (yP w i) w.2.1[i]=true:=by
 simp only[PM,Bool.and_eq_true]at h;exact so h.2.1 i hi
theorem TC {w:Wd} (h:PM w=true) {i:Nat} (hi:i<w.1.length):Ty (nF w i) i=true:=by
 simp only[PM,Bool.and_eq_true]at h;have:=so h.2.2 i (by simpa using hi);rw[List.take_range,Nat.min_eq_left om,List.getElem_range]at this;exact this
theorem TD {w:Wd} (h:PM w=true):w.2.1.length≤1000:=by
 simp only[PM,Bool.and_eq_true,decide_eq_true_eq]at h;exact h.1
@[reducible] noncomputable def IW (l:List Lr):TO:=.arr 25 true (l.map bK)
theorem wj {n:Nat} {w:gL} {m:Lr} (h:¬(1≤m.to∧m.to≤n)) (h2:¬200<m.to):j8 n w m=w:=by
 unfold j8;rw[if_neg h2,if_neg h]
theorem EL {n:Nat} {w:gL} {m:Lr} (h:¬(1≤m.to∧m.to≤n)) (h2:200<m.to):j8 n w m={w with told:=w.told++[m]}:=by
 unfold j8;rw[if_pos h2,if_neg h]
theorem MS {n:Nat} {all:List RS} {more told:List Lr} {m:Lr} {x:RS} (h:1≤m.to∧m.to≤n) (h2:¬200<m.to) (hx:all[(m.to - 1).toNat]? =some x):
 j8 n ⟨all,more,told⟩ m=⟨all.set (m.to - 1).toNat (gK (iF x m)),more++(iF x m).out,told⟩:=by
 unfold j8;rw[if_neg h2,if_pos h];dsimp only;rw[hx]
theorem PU (w0:Wd) (R:Nat) (hR:R≤100) (hn:w0.1.length≤100) (ht:w0.2.2=[]) (hk:Uz w0 R=true):VC E0 10 1 [.tk 0,.sl 25 (w0.2.1.map bK) false,.s (.int .i64 R)] [(0,At w0.1)] (RR (.tk 1) 2 [(0,At (iW w0 R).1),(1,IW (iW w0 R).2.2)]):=by
 refine en L0 Tryz.f10 ?_;refine⟨fun kk f o c=>∃(r:Nat) (w:Wd),r≤R∧kk=R - r∧w=iW w0 r∧c=2∧f=[(0,.tk 0),(1,.sl 25 (w.2.1.map bK) false),(2,.s (.int .i64 R)),(7,.tk 1),(8,.s (.int .i64 r))]∧o=[(0,At w.1),(1,IW w.2.2)],⟨R,?_⟩,?_⟩
 ·obtain⟨a0,s0,t0⟩:=w0;have ht:t0=[]:=ht;subst ht;exact⟨[],[some 0,none],_,_,_,t3,⟨0,(a0,s0,[]),Nat.zero_le _,rfl,rfl,rfl,rfl,rfl⟩⟩
 rintro kk f1 o1 c1 ⟨r,w,hr,rfl,hw,rfl,rfl,rfl⟩;refine wh ?_;refine sp ?_ ?_<;>intro bj;rotate_left
 ·have bj:¬(r:Int)<R:=bj;obtain rfl:r=R:=by omega
  subst hw;refine wh ?_;exact⟨[],[some 0,some 1],_,_,_,t3,rfl,rfl,rfl⟩
 have bj:(r:Int)<R:=bj;have h1:PM w=true:=by rw[hw];exact ME hk r om
 have XC:w.1.length≤100:=by rw[hw,yO];exact hn
 have E3:=TD h1;have Xg:iW w0 (r+1)=((nF w w.1.length).all,(nF w w.1.length).more,(nF w w.1.length).told):=by rw[wi,←hw];rfl
 refine wh ?_;refine⟨fun kk f o c=>∃(i:Nat) (a:gL),i≤w.2.1.length∧kk=w.2.1.length - i∧a=yP w i∧c=3∧f=[(0,.tk 0),(1,.sl 25 (w.2.1.map bK) false),(2,.s (.int .i64 R)),(7,.tk 1),(8,.s (.int .i64 r)),(9,.tk 2),(10,.s (.int .i64 i))]∧o=[(0,At a.all),(1,IW a.told),(2,IW a.more)],⟨w.2.1.length,?_⟩,?_⟩
 ·exact⟨[],[some 0,some 1,none],_,_,_,t3,⟨0,⟨w.1,[],w.2.2⟩,Nat.zero_le _,rfl,rfl,rfl,rfl,rfl⟩⟩
 rintro kk f1 o1 c1 ⟨i,⟨all,more,told⟩,hi,rfl,ha,rfl,rfl,rfl⟩;refine wh ?_;refine sp ?_ ?_<;>intro wY;rotate_left
 ·have wY:¬i<w.2.1.length:=fun h=>wY (KS.2 h);obtain rfl:i=w.2.1.length:=by omega
  rw[IV]at ha;rw[ha];clear ha;refine wh ?_;refine⟨fun kk f o c=>∃(i:Nat) (a:gL),i≤w.1.length∧kk=w.1.length - i∧a=nF w i∧c=3∧f=[(0,.tk 0),(2,.s (.int .i64 R)),(7,.tk 1),(8,.s (.int .i64 r)),(9,.tk 2),(12,.s (.int .i64 i))]∧o=[(0,At a.all),(1,IW a.told),(2,IW a.more)],⟨w.1.length,?_⟩,?_⟩
  ·exact⟨[],[some 0,some 1,some 2],_,_,_,t3,⟨0,nF w 0,Nat.zero_le _,rfl,rfl,rfl,rfl,rfl⟩⟩
  clear hi wY;rintro kk f1 o1 c1 ⟨i,⟨all,more,told⟩,hi,rfl,ha,rfl,rfl,rfl⟩;have c9:=IU w i;have C1:=EK w i;rw[←ha]at c9 C1;have c9:all.length=w.1.length:=c9;have oB:IntKind.i64.wrap ((i:Int)+1)=((i+1:Nat):Int):=IntWalk.i64_in _ om;refine wh ?_;refine sp ?_ ?_<;>intro IX;rotate_left
  ·have IX:¬(i:Int)<(all.map dP).length:=IX;rw[List.length_map,c9]at IX;obtain rfl:i=w.1.length:=by omega
   have oB:IntKind.i64.wrap ((r:Int)+1)=((r+1:Nat):Int):=IntWalk.i64_in _ om;rw[←ha]at Xg;refine wh ?_;rw[oB];refine⟨R - (r+1),?_,om⟩;exact⟨[2],[some 0,some 1],_,_,_,t3,⟨r+1,(all,more,told),om,rfl,Xg.symm,rfl,rfl,rfl⟩⟩
  have IX:(i:Int)<(all.map dP).length:=IX;rw[List.length_map,c9]at IX;have sK:=TC h1 (i:=i) om;rw[←ha]at sK;obtain⟨x,gx⟩:∃x,all[i]? =some x:=⟨_,List.getElem?_eq_getElem om⟩;have gi:(all.map dP)[(i:Int).toNat]? =some (dP x):=by simp[gx]
  simp only[Ty,qG,gx,Bool.and_eq_true,decide_eq_true_eq,List.isEmpty_iff]at sK C1;obtain⟨hml,M9,hol,hoe⟩:=sK;have Xh:=MD M9;refine wh ?_;refine⟨⟨om,by rw[List.length_map];omega⟩,?_⟩;refine wh ?_;refine⟨dP x,gi,?_⟩;refine wh ?_;refine⟨[],[some 3],_,_,_,_,Xh,t3,?_⟩;rintro rr o' c' (⟨XB,rfl,rfl,rfl⟩|⟨AA,rfl,rfl,rfl⟩)
  ·have htx:gJ x=x:=by unfold gJ;rw[if_pos XB]
   have hwx:gK x=x:=by obtain⟨x1,x2,x3,x4,x5,x6,x7,x8,x9,xa,xb,xc⟩:=x;cases hoe;rfl
   have bU:all.set i x=all:=by obtain⟨hj,rfl⟩:=List.getElem?_eq_some_iff.1 gx;exact List.set_getElem_self hj
   rw[htx,hwx,hoe,bU,List.append_nil]at C1;refine wh ?_;refine⟨by simp;omega,?_⟩;refine wh ?_;rw[oB];refine⟨w.1.length - (i+1),?_,om⟩;refine⟨[],[some 0,some 1,some 5],_,_,_,⟨tq,.cons (.bZ (kA:=[(_,dP x)]) .one (Lw.of (Gw gx)) (.q1 tq)) (.cons (.arr Lz.rfl) (.cons (.arr (Lz.of (List.append_nil _))) .nil)),by rfl⟩,⟨i+1,⟨all,more,told⟩,om,rfl,C1.symm,rfl,rfl,rfl⟩⟩
  ·refine wh ?_;refine⟨by simp;omega,?_⟩;refine wh ?_;rw[oB];refine⟨w.1.length - (i+1),?_,om⟩;refine⟨[],[some 0,some 1,some 6],_,_,_,⟨tq,.cons (.bZ (kA:=[(_,dP (gK (gJ x)))]) .one (Lw.of TA) (.q1 tq)) (.cons (.arr Lz.rfl) (.cons (.arr (Lz.of List.map_append.symm)) .nil)),by rfl⟩,⟨i+1,_,om,rfl,C1.symm,rfl,rfl,rfl⟩⟩
 have wY:i<w.2.1.length:=KS.1 wY;have sK:=TB h1 wY;have C1:=EJ w i wY;have c9:=IT w i;rw[←ha]at sK C1 c9;have c9:all.length=w.1.length:=c9;have gs:(w.2.1.map bK)[(i:Int).toNat]? =some (bK w.2.1[i]):=by simp[wY]
 generalize w.2.1[i]=m at sK C1 gs;have oB:IntKind.i64.wrap ((i:Int)+1)=((i+1:Nat):Int):=IntWalk.i64_in _ om;refine wh ?_;refine⟨bK m,⟨om,gs⟩,?_⟩;refine wh ?_;refine sp ?_ ?_<;>intro g1;rotate_left
 ·have g1:¬m.to≥1:=g1;rw[wj om om]at C1;refine wh ?_;refine sp ?_ ?_<;>intro g3
  ·have g3:m.to>200:=g3;omega
  refine wh ?_;rw[oB];refine⟨w.2.1.length - (i+1),?_,om⟩;exact⟨[],[some 0,some 1,some 2],_,_,_,t3,⟨i+1,⟨all,more,told⟩,om,rfl,C1.symm,rfl,rfl,rfl⟩⟩
 have g1:m.to≥1:=g1;refine wh ?_;refine sp ?_ ?_<;>intro g2;rotate_left
 ·have g2:¬m.to≤(all.map dP).length:=g2;rw[List.length_map,c9]at g2;refine wh ?_;refine sp ?_ ?_<;>intro g3;rotate_left
  ·have g3:¬m.to>200:=g3;rw[wj om om]at C1;refine wh ?_;rw[oB];refine⟨w.2.1.length - (i+1),?_,om⟩;exact⟨[],[some 0,some 1,some 2],_,_,_,t3,⟨i+1,⟨all,more,told⟩,om,rfl,C1.symm,rfl,rfl,rfl⟩⟩
  have g3:m.to>200:=g3;rw[EL om om]at C1;have Nr:told.length≤1000:=by simp only[Gu,Bool.and_eq_true,decide_eq_true_eq]at sK;exact sK.2.1
  refine wh ?_;refine⟨bK m,⟨om,gs⟩,?_⟩;refine wh ?_;refine⟨by simp;omega,?_⟩;refine wh ?_;rw[oB];refine⟨w.2.1.length - (i+1),?_,om⟩;refine⟨[],[some 0,some 4,some 2],?_⟩
  iterate 3 constructor
  refine⟨⟨?_,?_,?_⟩,⟨i+1,⟨all,more,told++[m]⟩,om,rfl,C1.symm,rfl,rfl,rfl⟩⟩
  all_goals(repeat' first|exact LF|constructor)
  all_goals exact Lz.of (by rw[List.map_append];rfl)
 have g2:m.to≤(all.map dP).length:=g2;rw[List.length_map,c9]at g2;obtain⟨k,hkt⟩:∃k:Nat,m.to=k+1:=⟨(m.to - 1).toNat,om⟩;have Yh:IntKind.i64.wrap (m.to - 1)=(k:Int):=by rw[IntWalk.i64_in _ om];omega
 have oK:(m.to - 1).toNat=k:=by omega
 obtain⟨x,gx⟩:∃x,all[k]? =some x:=⟨_,List.getElem?_eq_getElem om⟩;have gk:(all.map dP)[(k:Int).toNat]? =some (dP x):=by simp[gx]
 simp only[Gu,if_pos (show 1≤m.to∧m.to≤w.1.length from⟨g1,g2⟩),oK,gx,Bool.and_eq_true,decide_eq_true_eq]at sK;obtain⟨hml,Nr,M9,hol⟩:=sK;rw[MS ⟨g1,g2⟩ om (oK▸gx),oK]at C1;have Xi:=Gt M9;refine wh ?_;rw[Yh];refine⟨⟨om,by rw[List.length_map];omega⟩,?_⟩;refine wh ?_;refine⟨dP x,gk,?_⟩;refine wh ?_;refine⟨bK m,⟨om,gs⟩,?_⟩;refine wh ?_;refine⟨[],[some 3],_,_,_,_,Xi,t3,cw ?_⟩;refine⟨by simp;omega,?_⟩;refine wh ?_;refine sp ?_ ?_<;>intro g3
 ·have g3:m.to>200:=g3;omega
 refine wh ?_;rw[oB];refine⟨w.2.1.length - (i+1),?_,om⟩;refine⟨[],[some 0,some 1,some 6],_,_,_,⟨tq,.cons (.bZ (kA:=[(_,dP (gK (iF x m)))]) .one (Lw.of TA) (.q1 tq)) (.cons (.arr Lz.rfl) (.cons (.arr (Lz.of List.map_append.symm)) .nil)),by rfl⟩,⟨i+1,_,om,rfl,C1.symm,rfl,rfl,rfl⟩⟩
end Go.M
