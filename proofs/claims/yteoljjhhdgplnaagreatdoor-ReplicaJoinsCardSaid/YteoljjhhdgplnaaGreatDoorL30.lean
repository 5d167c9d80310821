/-
  Part 30 of the library that the proof leans on.
-/
import Derived.Test.YteoljjhhdgplnaaGreatDoorL12
import Derived.Test.YteoljjhhdgplnaaGreatDoorL28
import Derived.Test.YteoljjhhdgplnaaGreatDoorL29
namespace Go.M
open Go Go.Proofs
set_option maxRecDepth 100000
set_option maxHeartbeats 8000000
theorem Qa (n:Nat) (w:WJ) (m:Lr):(yF n w m).all.length=w.all.length:=by
 unfold yF;split
 ·rfl
 ·split
  ·simp
  ·rfl
theorem Qb (n:Nat) (w:WJ) (i:Nat):(pX n w i).all.length=w.all.length:=by
 unfold pX;split
 ·rfl
 ·split
  ·simp
  ·rfl
theorem pN (n:Nat):∀(l:List Lr) (w:WJ),(l.foldl (yF n) w).all.length=w.all.length
 |[],_=>rfl
 |m::l,w=>by rw[List.foldl_cons,pN n l,Qa]
theorem uM (n:Nat):∀(l:List Nat) (w:WJ),(l.foldl (pX n) w).all.length=w.all.length
 |[],_=>rfl
 |m::l,w=>by rw[List.foldl_cons,uM n l,Qb]
theorem UR (n:Nat) (w:WJ):(BG n w).all.length=w.all.length:=by
 show((List.range (n+1)).foldl (pX n) _).all.length=_;rw[uM];exact pN _ _ _
theorem Ea (n:Nat) (w:WJ):∀r,(turns n w r).all.length=w.all.length
 |0=>rfl
 |r+1=>by show(BG n (turns n w r)).all.length=_;rw[UR,Ea n w r]
@[reducible] def pT (n:Nat) (w:WJ) (i:Nat):WJ:=(w.said.take i).foldl (yF n) ⟨w.all,w.late,[]⟩
@[reducible] def pK (n:Nat) (w:WJ) (i:Nat):WJ:=(List.range i).foldl (pX n) (UL n w)
theorem abO (n:Nat) (w:WJ) (i:Nat):(pT n w i).all.length=w.all.length:=pN _ _ _
theorem abP (n:Nat) (w:WJ) (i:Nat):(pK n w i).all.length=w.all.length:=by unfold pK;rw[uM];exact pN _ _ _
theorem abQ (n:Nat) (w:WJ):pT n w w.said.length=pK n w 0:=by show List.foldl _ _ (w.said.take _)=_;rw[List.take_length];rfl
theorem X9 (n:Nat) (w:WJ) (i:Nat) (h:i<w.said.length):pT n w (i+1)=yF n (pT n w i) w.said[i]:=D6 _ _ _ i h
theorem Ya (n:Nat) (w:WJ) (i:Nat):pK n w (i+1)=pX n (pK n w i) i:=by show List.foldl _ _ _=_;rw[List.range_succ,List.foldl_append];rfl
theorem Yb {n:Nat} {w:WJ} (h:me n w=true) {i:Nat} (hi:i<w.said.length):Gn n (pT n w i) w.said[i]=true:=by
 simp only[me,Bool.and_eq_true]at h;exact oM h.2.1 i hi
theorem Yc {n:Nat} {w:WJ} (h:me n w=true) {i:Nat} (hi:i<n+1):zB n (pK n w i) i=true:=by
 simp only[me,Bool.and_eq_true]at h;have:=oM h.2.2 i (by simpa using hi);rw[List.take_range,Nat.min_eq_left om,List.getElem_range]at this;exact this
theorem LW {n:Nat} {w:WJ} (h:me n w=true):w.said.length≤1000:=by
 simp only[me,Bool.and_eq_true,decide_eq_true_eq]at h;exact h.1
@[reducible] noncomputable def nS (l:List RJ):List (List TV):=l.map s7++[[Ja]]
@[reducible] noncomputable def oJ (n:Nat) (w:WJ):Ob:=[(0,.cF 1 (nS w.all) [(n,[.ptr 1 0])]),(1,ie w.late)]
@[reducible] noncomputable def oJ3 (n:Nat) (w:WJ):Ob:=[(0,.cF 1 (nS w.all) [(n,[.ptr 1 0])]),(1,ie w.late),(2,LR w.said)]
theorem k8 (l:List RJ):(nS l).length=l.length+1:=by simp[nS]
theorem sS {l:List RJ} {j:Nat} {x:RJ} (h:l[j]? =some x):(nS l)[j]? =some (s7 x):=by
 have hj:=(List.getElem?_eq_some_iff.1 h).1;rw[nS,List.getElem?_append_left (by simpa using hj),List.getElem?_map,h];rfl
theorem jz {l:List RJ} {j:Nat} {x:RJ} (h:j<l.length):(nS l).set j (s7 x)=nS (l.set j x):=by
 rw[nS,nS,List.set_append_left _ _ (by simpa using h),List.map_set]
theorem Ju (n:Nat) (w0:WJ) (R:Nat) (hR:R≤100) (hn:n≤50) (hl:w0.all.length=n) (hs:w0.said=[]) (hk:∀q,q<R→me n (turns n w0 q)=true):
 VC E0 10 2 [.tk 0,.sl 0 [] true,.s (.int .i64 R)] (oJ n w0) (RR (.sl 0 [] true) 2 (oJ n (turns n w0 R))):=by
 refine en L0 Tryz.f10 ?_;refine⟨fun kk f o c=>∃(r:Nat) (w:WJ),r≤R∧kk=R - r∧w=turns n w0 r∧c=2∧f=[(0,.tk 0),(1,.sl 25 (w.said.map bp) false),(2,.s (.int .i64 R)),(7,.sl 0 [] true),(8,.s (.int .i64 r))]∧o=oJ n w,⟨R,?_⟩,?_⟩
 ·obtain⟨a0,l0,s0⟩:=w0;have hs:s0=[]:=hs;subst hs;exact⟨[],[some 0,some 1],_,_,_,t3,⟨0,⟨a0,l0,[]⟩,Nat.zero_le _,rfl,rfl,rfl,rfl,rfl⟩⟩
 rintro kk f1 o1 c1 ⟨r,w,hr,rfl,hw,rfl,rfl,rfl⟩;refine wh ?_;refine sp ?_ ?_<;>intro bw;rotate_left
 ·have bw:¬(r:Int)<R:=bw;obtain rfl:r=R:=by omega
  subst hw;refine wh ?_;exact⟨[],[some 0,some 1],_,_,_,t3,rfl,rfl,rfl⟩
 have bw:(r:Int)<R:=bw;have h1:me n w=true:=by rw[hw];exact hk r om
 have hwn:w.all.length=n:=by rw[hw,Ea];exact hl
 have yM:=LW h1;refine wh ?_;refine⟨fun kk f o c=>∃(i:Nat) (a:WJ),i≤w.said.length∧kk=w.said.length - i∧a=pT n w i∧c=3∧f=[(0,.tk 0),(1,.sl 25 (w.said.map bp) false),(2,.s (.int .i64 R)),(7,.sl 0 [] true),(8,.s (.int .i64 r)),(9,.tk 2),(10,.s (.int .i64 i))]∧o=oJ3 n a,⟨w.said.length,?_⟩,?_⟩
 ·exact⟨[],[some 0,some 1,none],_,_,_,t3,⟨0,⟨w.all,w.late,[]⟩,Nat.zero_le _,rfl,rfl,rfl,rfl,rfl⟩⟩
 rintro kk f1 o1 c1 ⟨i,⟨all,late,more⟩,hi,rfl,ha,rfl,rfl,rfl⟩;refine wh ?_;refine sp ?_ ?_<;>intro nF;rotate_left
 ·have nF:¬i<w.said.length:=fun h=>nF (Iq.2 h);obtain rfl:i=w.said.length:=by omega
  rw[abQ]at ha;refine wh ?_;refine⟨fun kk f o c=>∃(i:Nat) (a:WJ),i≤n+1∧kk=n+1 - i∧a=pK n w i∧c=3∧f=[(0,.tk 0),(2,.s (.int .i64 R)),(7,.sl 0 [] true),(8,.s (.int .i64 r)),(9,.tk 2),(12,.s (.int .i64 i))]∧o=oJ3 n a,⟨n+1,?_⟩,?_⟩
  ·exact⟨[],[some 0,some 1,some 2],_,_,_,t3,⟨0,⟨all,late,more⟩,Nat.zero_le _,rfl,ha,rfl,rfl,rfl⟩⟩
  clear hi nF ha all late more;rintro kk f1 o1 c1 ⟨i,⟨all,late,more⟩,hi,rfl,ha,rfl,rfl,rfl⟩;have dh:=abP n w i;have kZ:=Ya n w i;rw[←ha]at dh kZ;have dh:all.length=n:=dh.trans hwn;have lM:IntKind.i64.wrap ((i:Int)+1)=((i+1:Nat):Int):=IntWalk.i64_in _ om;refine wh ?_;refine sp ?_ ?_<;>intro xD;rotate_left
  ·have xD:¬(i:Int)<(nS all).length:=xD;rw[k8,dh]at xD;obtain rfl:i=n+1:=by omega
   have lM:IntKind.i64.wrap ((r:Int)+1)=((r+1:Nat):Int):=IntWalk.i64_in _ om;have X8:turns n w0 (r+1)=⟨all,late,more⟩:=by
    show BG n (turns n w0 r)=_;rw[←hw,ha];rfl
   refine wh ?_;rw[lM];refine⟨R - (r+1),?_,om⟩;exact⟨[2],[some 0,some 1],_,_,_,t3,⟨r+1,⟨all,late,more⟩,om,rfl,X8.symm,rfl,rfl,rfl⟩⟩
  have xD:(i:Int)<(nS all).length:=xD;rw[k8,dh]at xD;have k9:=Yc h1 (i:=i) om;rw[←ha]at k9;clear ha;refine wh ?_;refine⟨⟨om,by rw[k8];omega⟩,?_⟩;refine wh ?_;refine⟨fun hz=>?_,fun hz=>?_⟩
  ·have hz:(i:Int).toNat=n:=hz;obtain rfl:i=n:=by omega
   simp only[zB,if_true,Bool.and_eq_true,decide_eq_true_eq,List.isEmpty_iff]at k9;obtain⟨hml,Gw,P3,Vr⟩:=k9;have D9:=Bz Gw;have kZ:pK i w (i+1)=⟨all,bE (cq late),more++(cq late).out⟩:=kZ.trans (if_pos rfl);refine wh ?_;refine⟨[],[some 1],_,_,_,_,D9,t3,?_⟩;rintro rr o' c' (⟨hs0,rfl,rfl,rfl⟩|⟨B4,rfl,rfl,rfl⟩)
   ·have htx:cq late=late:=by unfold cq;rw[if_pos hs0]
    have LV:bE late=late:=by obtain⟨x1,x2,x3,x4,x5,x6,x7,x8,x9,xa,xb,xc⟩:=late;cases Vr;rfl
    rw[htx,LV,Vr,List.append_nil]at kZ;refine wh ?_;refine⟨by simp;omega,?_⟩;refine wh ?_;rw[lM];refine⟨i+1 - (i+1),?_,om⟩;refine⟨[],[some 0,some 1,some 4],_,_,_,⟨tq,.cons (.B6 Lz.rfl (.cons tq .nil)) (.cons tq (.cons (.arr (Lz.of (List.append_nil _))) .nil)),by rfl⟩,⟨i+1,⟨all,late,more⟩,om,rfl,kZ.symm,rfl,rfl,rfl⟩⟩
   ·refine wh ?_;refine⟨by simp;omega,?_⟩;refine wh ?_;rw[lM];refine⟨i+1 - (i+1),?_,om⟩;refine⟨[],[some 0,some 1,some 5],_,_,_,⟨tq,.cons (.B6 Lz.rfl (.cons tq .nil)) (.cons tq (.cons (.arr (Lz.of List.map_append.symm)) .nil)),by rfl⟩,⟨i+1,_,om,rfl,kZ.symm,rfl,rfl,rfl⟩⟩
  ·have hz:¬(i:Int).toNat=n:=hz;obtain⟨x,gx⟩:∃x,all[i]? =some x:=⟨_,List.getElem?_eq_getElem om⟩;have gi:(nS all)[(i:Int).toNat]? =some (s7 x):=by rw[show(i:Int).toNat=i from Int.toNat_natCast i];exact sS gx
   simp only[zB,if_neg (show¬i=n by omega),gx,Bool.and_eq_true,decide_eq_true_eq,List.isEmpty_iff]at k9;obtain⟨hml,Gw,P3,Vr⟩:=k9;have D9:=UJ Gw;have kZ:pK n w (i+1)=⟨all.set i (gR (nf x)),late,more++(nf x).r.out⟩:=by
    rw[kZ];unfold pX;rw[if_neg (show¬i=n by omega)];dsimp only;rw[gx]
   refine⟨s7 x,gi,?_⟩;have kI:∀x',x'=x→gR x'=x→all.set i (gR x')=all:=fun x' e1 e2=>by
    rw[e2];obtain⟨hj,rfl⟩:=List.getElem?_eq_some_iff.1 gx;exact List.set_getElem_self hj
   obtain⟨xr,xg⟩:=x;cases xg with
   |none=>
    refine wh ?_;refine⟨[],[some 3],_,_,_,_,D9,t3,?_⟩;rintro rr o' c' (⟨htx,rfl,rfl,rfl⟩|⟨rfl,rfl,rfl⟩)
    ·have LV:gR ⟨xr,none⟩=⟨xr,none⟩:=by obtain⟨x1,x2,x3,x4,x5,x6,x7,x8,x9,xa,xb,xc⟩:=xr;cases Vr;rfl
     rw[htx,LV,Vr,List.append_nil]at kZ;have bz:(nS all).set i [.own (ie xr)]=nS all:=by
      have e:=jz (l:=all) (j:=i) (x:=⟨xr,none⟩) om;have e2:=kI ⟨xr,none⟩ rfl LV;rw[LV]at e2;rw[e2]at e kZ;exact e
     have e2:=kI ⟨xr,none⟩ rfl LV;rw[LV]at e2;rw[e2]at kZ;refine wh ?_;refine⟨by simp;omega,?_⟩;refine wh ?_;rw[lM];refine⟨n+1 - (i+1),?_,om⟩;refine⟨[],[some 0,some 1,some 5],_,_,_,⟨tq,.cons (.yQ hz (Lw.of bz) tq tq) (.cons tq (.cons (.arr (Lz.of (List.append_nil _))) .nil)),by rfl⟩,⟨i+1,⟨all,late,more⟩,om,rfl,kZ.symm,rfl,rfl,rfl⟩⟩
    ·have bz:(nS all).set i [.own (ie (bE (cq xr)))]=nS (all.set i (gR (nf ⟨xr,none⟩))):=jz (l:=all) (j:=i) (x:=gR (nf ⟨xr,none⟩)) om;refine wh ?_;refine⟨by simp;omega,?_⟩;refine wh ?_;rw[lM];refine⟨n+1 - (i+1),?_,om⟩;refine⟨[],[some 0,some 1,some 6],_,_,_,⟨tq,.cons (.yQ hz (Lw.of bz) tq tq) (.cons tq (.cons (.arr (Lz.of List.map_append.symm)) .nil)),by rfl⟩,⟨i+1,_,om,rfl,kZ.symm,rfl,rfl,rfl⟩⟩
   |some g=>
    obtain⟨a,b⟩:=g;refine wh ?_;refine⟨[],[some 3],_,_,_,_,D9,t3,?_⟩;rintro rr o' c' (⟨htx,rfl,rfl,rfl⟩|⟨rfl,rfl,rfl⟩)
    ·have LV:gR ⟨xr,(some (a,b))⟩=⟨xr,(some (a,b))⟩:=by obtain⟨x1,x2,x3,x4,x5,x6,x7,x8,x9,xa,xb,xc⟩:=xr;cases Vr;rfl
     rw[htx,LV,Vr,List.append_nil]at kZ;have bz:(nS all).set i [.own (Cp a b xr)]=nS all:=by
      have e:=jz (l:=all) (j:=i) (x:=⟨xr,(some (a,b))⟩) om;have e2:=kI ⟨xr,(some (a,b))⟩ rfl LV;rw[LV]at e2;rw[e2]at e kZ;exact e
     have e2:=kI ⟨xr,(some (a,b))⟩ rfl LV;rw[LV]at e2;rw[e2]at kZ;refine wh ?_;refine⟨by simp;omega,?_⟩;refine wh ?_;rw[lM];refine⟨n+1 - (i+1),?_,om⟩;refine⟨[],[some 0,some 1,some 5],_,_,_,⟨tq,.cons (.yQ hz (Lw.of bz) tq tq) (.cons tq (.cons (.arr (Lz.of (List.append_nil _))) .nil)),by rfl⟩,⟨i+1,⟨all,late,more⟩,om,rfl,kZ.symm,rfl,rfl,rfl⟩⟩
    ·have bz:(nS all).set i [.own (Cp a b (bE (nf ⟨xr,some (a,b)⟩).r))]=nS (all.set i (gR (nf ⟨xr,(some (a,b))⟩))):=jz (l:=all) (j:=i) (x:=gR (nf ⟨xr,(some (a,b))⟩)) om;refine wh ?_;refine⟨by simp;omega,?_⟩;refine wh ?_;rw[lM];refine⟨n+1 - (i+1),?_,om⟩;refine⟨[],[some 0,some 1,some 6],_,_,_,⟨tq,.cons (.yQ hz (Lw.of bz) tq tq) (.cons tq (.cons (.arr (Lz.of List.map_append.symm)) .nil)),by rfl⟩,⟨i+1,_,om,rfl,kZ.symm,rfl,rfl,rfl⟩⟩
 have nF:i<w.said.length:=Iq.1 nF;have k9:=Yb h1 nF;have kZ:=X9 n w i nF;have dh:=abO n w i;rw[←ha]at k9 kZ dh;clear ha;have dh:all.length=n:=dh.trans hwn;have gs:(w.said.map bp)[(i:Int).toNat]? =some (bp w.said[i]):=by simp[nF]
 generalize w.said[i]=m at k9 kZ gs;have lM:IntKind.i64.wrap ((i:Int)+1)=((i+1:Nat):Int):=IntWalk.i64_in _ om;simp only[Gn,Bool.and_eq_true,decide_eq_true_eq]at k9;obtain⟨hml,⟨ajX,ajY⟩,k9⟩:=k9;have hml:more.length≤1000:=hml;refine wh ?_;refine⟨bp m,⟨om,gs⟩,?_⟩;refine wh ?_;refine sp ?_ ?_<;>intro g1;rotate_left
 ·exact absurd (show m.to≥1 from ajX) g1
 refine wh ?_;refine sp ?_ ?_<;>intro g2;rotate_left
 ·exact absurd (show m.to≤(nS all).length by rw[k8,dh];exact ajY) g2
 clear g1 g2;obtain⟨k,hkt⟩:∃k:Nat,m.to=k+1:=⟨(m.to - 1).toNat,om⟩;have hwk:IntKind.i64.wrap (m.to - 1)=(k:Int):=by rw[IntWalk.i64_in _ om];omega
 have qL:(m.to - 1).toNat=k:=by omega
 refine wh ?_;rw[hwk];refine⟨⟨om,by rw[k8];omega⟩,?_⟩;refine wh ?_;refine⟨fun hz=>?_,fun hz=>?_⟩
 ·have hz:(k:Int).toNat=n:=hz;obtain rfl:k=n:=by omega
  have kZ:pT k w (i+1)=⟨all,bE (iX ⟨late,none⟩ m).r,more++(iX ⟨late,none⟩ m).r.out⟩:=kZ.trans (if_pos hkt);rw[if_pos hkt]at k9;simp only[Bool.and_eq_true,decide_eq_true_eq]at k9;obtain⟨Gw,JG,P3⟩:=k9;have tK:=Jr Gw;generalize iX ⟨late,none⟩ m=y at tK JG P3 kZ;obtain⟨yr,yg⟩:=y;have P3:yr.out.length≤1000:=P3;have JG:yg=none:=jX JG;subst JG;refine wh ?_;refine⟨bp m,⟨om,gs⟩,?_⟩;refine wh ?_;refine⟨[],[some 1],_,_,_,_,tK,t3,cw ?_⟩;refine⟨by simp;omega,?_⟩;refine wh ?_;refine sp ?_ ?_<;>intro g3
  ·have g3:m.to>200:=g3;omega
  refine wh ?_;rw[lM];refine⟨w.said.length - (i+1),?_,om⟩;refine⟨[],[some 0,some 1,some 5],_,_,_,⟨tq,.cons (.B6 Lz.rfl (.cons tq .nil)) (.cons tq (.cons (.arr (Lz.of List.map_append.symm)) .nil)),by rfl⟩,⟨i+1,_,om,rfl,kZ.symm,rfl,rfl,rfl⟩⟩
 ·have hz:¬(k:Int).toNat=n:=hz;have agf:¬m.to=(n:Int)+1:=by omega
  obtain⟨x,gx⟩:∃x,all[k]? =some x:=⟨_,List.getElem?_eq_getElem om⟩;have gk:(nS all)[(k:Int).toNat]? =some (s7 x):=by rw[show(k:Int).toNat=k from Int.toNat_natCast k];exact sS gx
  rw[if_neg agf,qL,gx]at k9;simp only[Bool.and_eq_true,decide_eq_true_eq]at k9;obtain⟨Gw,P3⟩:=k9;have tK:=Jr Gw;have kZ:pT n w (i+1)=⟨all.set k (gR (iX x m)),late,more++(iX x m).r.out⟩:=by
   rw[kZ];unfold yF;rw[if_neg agf];dsimp only;rw[qL,gx]
  generalize iX x m=y at tK P3 kZ;obtain⟨yr,yg⟩:=y;have P3:yr.out.length≤1000:=P3;refine wh ?_;refine⟨s7 x,gk,?_⟩;obtain⟨xr,xg⟩:=x;cases xg with
  |none=>
        refine wh ?_;refine⟨bp m,⟨om,gs⟩,?_⟩;refine wh ?_;cases yg with
        |none=>
         have bz:(nS all).set k [.own (ie (bE yr))]=nS (all.set k (gR ⟨yr,none⟩)):=jz (l:=all) (j:=k) (x:=gR ⟨yr,none⟩) om;refine⟨[],[some 3],_,_,_,_,tK,t3,cw ?_⟩;refine⟨by simp;omega,?_⟩;refine wh ?_;refine sp ?_ ?_<;>intro g3
         ·have g3:m.to>200:=g3;omega
         refine wh ?_;rw[lM];refine⟨w.said.length - (i+1),?_,om⟩;refine⟨[],[some 0,some 1,some 6],_,_,_,⟨tq,.cons (.yQ hz (Lw.of bz) tq tq) (.cons tq (.cons (.arr (Lz.of List.map_append.symm)) .nil)),by rfl⟩,⟨i+1,_,om,rfl,kZ.symm,rfl,rfl,rfl⟩⟩
        |some g=>
         obtain⟨ya,yb⟩:=g;have bz:(nS all).set k [.own (Cp ya yb (bE yr))]=nS (all.set k (gR ⟨yr,some (ya,yb)⟩)):=jz (l:=all) (j:=k) (x:=gR ⟨yr,some (ya,yb)⟩) om;refine⟨[],[some 3],_,_,_,_,tK,t3,cw ?_⟩;refine⟨by simp;omega,?_⟩;refine wh ?_;refine sp ?_ ?_<;>intro g3
         ·have g3:m.to>200:=g3;omega
         refine wh ?_;rw[lM];refine⟨w.said.length - (i+1),?_,om⟩;refine⟨[],[some 0,some 1,some 6],_,_,_,⟨tq,.cons (.yQ hz (Lw.of bz) tq tq) (.cons tq (.cons (.arr (Lz.of List.map_append.symm)) .nil)),by rfl⟩,⟨i+1,_,om,rfl,kZ.symm,rfl,rfl,rfl⟩⟩
  |some g=>
        obtain⟨a,b⟩:=g;refine wh ?_;refine⟨bp m,⟨om,gs⟩,?_⟩;refine wh ?_;cases yg with
        |none=>
         have bz:(nS all).set k [.own (ie (bE yr))]=nS (all.set k (gR ⟨yr,none⟩)):=jz (l:=all) (j:=k) (x:=gR ⟨yr,none⟩) om;refine⟨[],[some 3],_,_,_,_,tK,t3,cw ?_⟩;refine⟨by simp;omega,?_⟩;refine wh ?_;refine sp ?_ ?_<;>intro g3
         ·have g3:m.to>200:=g3;omega
         refine wh ?_;rw[lM];refine⟨w.said.length - (i+1),?_,om⟩;refine⟨[],[some 0,some 1,some 6],_,_,_,⟨tq,.cons (.yQ hz (Lw.of bz) tq tq) (.cons tq (.cons (.arr (Lz.of List.map_append.symm)) .nil)),by rfl⟩,⟨i+1,_,om,rfl,kZ.symm,rfl,rfl,rfl⟩⟩
        |some g=>
         obtain⟨ya,yb⟩:=g;have bz:(nS all).set k [.own (Cp ya yb (bE yr))]=nS (all.set k (gR ⟨yr,some (ya,yb)⟩)):=jz (l:=all) (j:=k) (x:=gR ⟨yr,some (ya,yb)⟩) om;refine⟨[],[some 3],_,_,_,_,tK,t3,cw ?_⟩;refine⟨by simp;omega,?_⟩;refine wh ?_;refine sp ?_ ?_<;>intro g3
         ·have g3:m.to>200:=g3;omega
         refine wh ?_;rw[lM];refine⟨w.said.length - (i+1),?_,om⟩;refine⟨[],[some 0,some 1,some 6],_,_,_,⟨tq,.cons (.yQ hz (Lw.of bz) tq tq) (.cons tq (.cons (.arr (Lz.of List.map_append.symm)) .nil)),by rfl⟩,⟨i+1,_,om,rfl,kZ.symm,rfl,rfl,rfl⟩⟩
end Go.M
