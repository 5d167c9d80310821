/-
  Part 25 of the library that the proof leans on.
-/
import Derived.Test.YteoljjhhdgplnaaGreatDoorL12
import Derived.Test.YteoljjhhdgplnaaGreatDoorL24
import Derived.Test.YteoljjhhdgplnaaGreatDoorL22
import Derived.Test.YteoljjhhdgplnaaGreatDoorL23
namespace Go.M
open Go Go.Proofs
set_option maxRecDepth 100000
set_option maxHeartbeats 4000000
def SL:Fr→Fr→Prop
 |[],_=>True
 |p::l,f=>nk f p.1=p.2∧SL l f
theorem SL.all {f:Fr}:∀{l:Fr},SL l f→∀t,nk l t=nk f t∨nk l t= .j
 |[],_,t=>.inr rfl
 |p::l,h,t=>by
  rw[pN];split
  ·rename_i e;subst e;exact .inl h.1.symm
  ·exact SL.all h.2 t
@[reducible] def Yz (x:ZG):TO:=.cells [.s (.int .u64 x.at_),.s (.int .i64 x.parts),.s (.int .i64 x.next),.own (.arr 1 true (bM x.b))]
@[reducible] def SB:TV:=.s (.pointer none)
@[reducible] def abM (q:TV) (x:RS):List TV:=[.s (.int .i64 x.node),.s (.int .i64 x.au.chain),.s (.int .u64 x.au.aB),.sl 1 (x.au.nodes.map aL) false,.s (.bool x.au.fresh),.s (.int .i64 x.au.join),
 .s (.bool x.role.DZ),.s (.bool x.role.jY),.s (.bool x.role.head),.s (.bool x.role.tail),.s (.bool x.role.waits),.s (.int .i64 x.role.place),.s (.int .i64 x.role.pred),.s (.int .i64 x.role.succ),
 .own (UZ x.st),.own (UU x.an),.s (.int .u64 x.base),.s (.bool x.df),.s (.int .u64 x.bl),.s (.bool x.known),q,.s (.int .i64 x.want),.own (Yz x.comes),.own (.arr 25 true (x.out.map ai))]
@[reducible] def kP (x:RS):TO:=.cells (abM SB x)
@[reducible] def gA (x:RS):Ob:=[(0,kP x)]
theorem Q2 (x:RS) (l:Lr) (to:Int) (hl:x.out.length<100000):VC E0 83 1 [.ptr 0 0,.agg (ai l),.s (.int .i64 to)] (gA x) (RR (.cY []) 1 (gA (y7 x l to))):=by
 refine en L0 Tryz.f83 ?_;refine sp ?_ ?_<;>intro hk
 ·have hk:l.kind≠18:=hk;have e:pd x l to={l with DY:=x.node,to:=to,chain:=x.au.chain,aB:=x.au.aB}:=if_neg hk;refine wh ?_;refine⟨by simp;omega,?_⟩;refine wh ?_;refine⟨[],[some 0],?_⟩
  iterate 3 constructor
  refine⟨⟨?_,?_,?_⟩,rfl,rfl,rfl⟩
  all_goals(repeat' first|exact LF|constructor)
  all_goals exact Lz.of (by show _=(x.out++[pd x l to]).map ai;rw[e,List.map_append];rfl)
 ·have hk:l.kind=18:=Classical.not_not.1 hk;have e:pd x l to={l with DY:=x.node,to:=to}:=if_pos hk;refine wh ?_;refine⟨by simp;omega,?_⟩;refine wh ?_;refine⟨[],[some 0],?_⟩
  iterate 3 constructor
  refine⟨⟨?_,?_,?_⟩,rfl,rfl,rfl⟩
  all_goals(repeat' first|exact LF|constructor)
  all_goals exact Lz.of (by show _=(x.out++[pd x l to]).map ai;rw[e,List.map_append];rfl)
theorem dm (x:RS):VC E0 31 1 [.ptr 0 0] (gA x) (RR (.tk 1) 2 [(0,kP (a6 x)),(1,.arr 25 true (x.out.map ai))]):=by
 refine en L0 Tryz.f31 ?_;exact⟨[],[some 0,some 1],_,_,_,t3,rfl,rfl,rfl⟩
theorem Ko (x:RS) (r:fB) (hl:x.out.length<100000) (hr:0≤r.ak∧r.ak≤6):VC E0 60 1 [.ptr 0 0,.agg (D9 r)] (gA x) (RR (.cY []) 1 (gA (BU x r))):=by
 have hw:IntKind.i64.wrap (200+r.ak)=200+r.ak:=IntWalk.i64_in _ om;refine en L0 Tryz.f60 ?_;rw[hw];refine⟨[],[some 0],_,_,_,_,Q2 x (Nc r) (200+r.ak) hl,t3,cw ?_⟩;exact⟨[],[some 0],_,_,_,t3,rfl,rfl,rfl⟩
theorem Og (x:ZG):VC E0 106 1 [.ptr 0 0] [(0,Yz x)] (RR (.cY [.s (.int .u64 x.at_),.s (.int .i64 x.next)]) 1 [(0,Yz x)]):=by
 refine en L0 Tryz.f106 ?_;exact⟨[],[some 0],_,_,_,t3,rfl,rfl,rfl⟩
theorem sN (x:RS) (hl:x.out.length<100000) (H:sL x.an):VC E0 64 1 [.ptr 0 0] (gA x) (RR (.cY []) 1 (gA (gL x))):=by
 refine en L0 Tryz.f64 ?_;refine sp ?_ ?_<;>intro hp
 ·have e:gL x=x:=if_pos hp;rw[e];refine wh ?_;exact⟨[],[some 0],_,_,_,t3,rfl,rfl,rfl⟩
 have e:gL x=y7 x (UE x) x.role.pred:=if_neg hp;rw[e];have dX:=eG x.an H;refine wh ?_;refine⟨[],[some 1],_,_,_,_,Og x.comes,t3,cw ?_⟩;refine⟨[],[some 3],_,_,_,_,dX,t3,cw ?_⟩;refine⟨[],[some 3],_,_,_,_,mM x.an,t3,cw ?_⟩;refine⟨[],[some 0],_,_,_,_,Q2 x (UE x) x.role.pred hl,t3,cw ?_⟩;exact⟨[],[some 0],_,_,_,t3,rfl,rfl,rfl⟩
theorem Q3 (x:RS) (hl:x.out.length<100000) (H:sL x.an) (hk:x.role.succ=0∨x.known=false∨(g9 x.an x.bl 4).isSome=true):VC E0 44 1 [.ptr 0 0] (gA x) (RR (.cY []) 1 (gA (cp x))):=by
 have dX:=eG x.an H;obtain⟨node,au,role,st,an,base,df,bl,known,want,comes,out⟩:=x;by_cases hs:role.succ=0
 ·have e:cp ⟨node,au,role,st,an,base,df,bl,known,want,comes,out⟩=⟨node,au,role,st,an,base,df,bl,known,want,comes,out⟩:=if_pos hs;rw[e];refine en L0 Tryz.f44 ?_;refine sp ?_ ?_<;>intro hz
  ·refine wh ?_;exact⟨[],[some 0],_,_,_,t3,rfl,rfl,rfl⟩
  ·exact absurd hs hz
 cases known
 ·have e:cp ⟨node,au,role,st,an,base,df,bl,false,want,comes,out⟩=y7 ⟨node,au,role,st,an,base,df,bl,false,want,comes,out⟩ (qo ⟨node,au,role,st,an,base,df,bl,false,want,comes,out⟩ []) role.succ:=by
   unfold cp;rw[if_neg hs,if_pos rfl]
  have U0:=Q2 ⟨node,au,role,st,an,base,df,bl,false,want,comes,out⟩ (qo ⟨node,au,role,st,an,base,df,bl,false,want,comes,out⟩ []) role.succ hl;rw[e];refine en L0 Tryz.f44 ?_;refine sp ?_ ?_<;>intro hz
  ·exact absurd hz hs
  refine wh ?_;refine⟨[],[some 1],_,_,_,_,dX,t3,cw ?_⟩;refine⟨[],[some 0],_,_,_,_,U0,t3,cw ?_⟩;exact⟨[],[some 0],_,_,_,t3,rfl,rfl,rfl⟩
 ·obtain⟨l,hf⟩:=Option.isSome_iff_exists.1 (hk.resolve_left hs |>.resolve_left Bool.noConfusion);have e:cp ⟨node,au,role,st,an,base,df,bl,true,want,comes,out⟩=y7 ⟨node,au,role,st,an,base,df,bl,true,want,comes,out⟩ (qo ⟨node,au,role,st,an,base,df,bl,true,want,comes,out⟩ l) role.succ:=by
   unfold cp;rw[if_neg hs,if_neg (show¬(true=false)from Bool.noConfusion),hf]
  have CA:=Ir an H bl 4 (by decide) l hf;have U0:=Q2 ⟨node,au,role,st,an,base,df,bl,true,want,comes,out⟩ (qo ⟨node,au,role,st,an,base,df,bl,true,want,comes,out⟩ l) role.succ hl;rw[e];refine en L0 Tryz.f44 ?_;refine sp ?_ ?_<;>intro hz
  ·exact absurd hz hs
  refine wh ?_;refine⟨[],[some 1],_,_,_,_,dX,t3,cw ?_⟩;refine⟨[],[some 1],_,_,_,_,CA,t3,cw ?_⟩;refine⟨[],[some 0],_,_,_,_,U0,t3,cw ?_⟩;exact⟨[],[some 0],_,_,_,t3,rfl,rfl,rfl⟩
theorem Kp (x:RS) (u:bo) (H:sL x.an) (Hs:y8 x.st) (hu:Nr u) (hc:o9 u=0) (TT:u.seq - 1=aE x.an) (h0:1≤u.seq) (h:x.an.l.length<9999):VC E0 62 1 [.ptr 0 0,.agg (b7 u)] (gA x) (RR (.cY []) 1 (gA (rC x u))):=by
 have ha:=Km x.st u Hs hu;have hw:=QT x.an u H hc TT h0 h;refine en L0 Tryz.f62 ?_;refine⟨[],[some 2],_,_,_,_,ha,t3,cw ?_⟩;refine⟨[],[some 4],_,_,_,_,hw,t3,cw ?_⟩;exact⟨[],[some 0],_,_,_,t3,rfl,rfl,rfl⟩
structure uX (x y:RS) (k:Nat):Prop where
 node:y.node=x.node
 au:y.au=x.au
 role:y.role=x.role
 st:y.st=x.st
 an:y.an=x.an
 comes:y.comes=x.comes
 out:y.out.length≤x.out.length+k
theorem uX.refl (x:RS):uX x x 0:=⟨rfl,rfl,rfl,rfl,rfl,rfl,Nat.le_refl _⟩
theorem uX.trans {x y z:RS} {a b:Nat} (h:uX x y a) (k:uX y z b):uX x z (a+b):=
 ⟨k.node.trans h.node,k.au.trans h.au,k.role.trans h.role,k.st.trans h.st,k.an.trans h.an,k.comes.trans h.comes,by have:=h.out;have:=k.out;omega⟩
theorem GI (st:dG) (x:RS) (u:bo):uX x (eS st x u) 1:=by
 unfold eS;split
 ·exact⟨rfl,rfl,rfl,rfl,rfl,rfl,by show(x.out++[_]).length≤_;rw[List.length_append];exact Nat.le_refl _⟩
 ·exact⟨rfl,rfl,rfl,rfl,rfl,rfl,Nat.le_succ _⟩
theorem pV (st:dG):∀(l:List bo) (x:RS),uX x (l.foldl (eS st) x) l.length
 |[],x=>.refl x
 |u::l,x=>by
  have h:=(GI st x u).trans (pV st l (eS st x u));rw[List.length_cons];exact⟨h.node,h.au,h.role,h.st,h.an,h.comes,by have:=h.out;show(l.foldl (eS st) (eS st x u)).out.length≤_;omega⟩
theorem Oh {w:gy} (H:sL w):sL (lB w):=by
 have GD:=H.done;have uv:=H.low;unfold lB;split
 ·exact H
 ·exact⟨by show 0≤max w.low _∧max w.low _≤50000;omega,GD,by show(w.l.drop _).length≤10000;rw[List.length_drop];have:=H.len;omega,fun u hu=>H.data u (List.mem_of_mem_drop hu)⟩
theorem Kq {w:gy} {n:Int} (H:sL w) (hd:w.done≤aE w) (h5:aE w≤50000):sL (cM w n).2:=by
 have hE:aE w=w.low+(w.l.length:Nat):=rfl;have GD:=H.done;have uv:=H.low;have hr:w.done≤b6 w n∧b6 w n≤aE w:=by unfold b6;omega
 exact Oh (w:={w with done:=b6 w n}) ⟨H.low,by show 0≤b6 w n∧b6 w n≤50000;omega,H.len,H.data⟩
def ye (t:dN):Prop:=∀c,0≤(gK t c).1.ak∧(gK t c).1.ak≤6
theorem Oi (x:RS) (n:Int) (hl:x.out.length<50000) (H:sL x.an) (Hs:y8 x.st) (Hr:ye x.st.t) (hn:0≤n∧n≤1000000) (hd:x.an.done≤aE x.an) (h5:aE x.an≤50000) (hb:x.st.bs.length<13):
 VC E0 53 1 [.ptr 0 0,.s (.int .u64 n)] (gA x) (RR (.cY []) 1 (gA (cA x n))):=by
 have hre:=NM x.an n H hn hd h5;have vZ:=kO x.an.done x.an.l (b6 x.an n - x.an.done);have hle:=H.len;have uC:=pV x.st;have e1:(cM x.an n).1=bR x.an.done x.an.l (b6 x.an n - x.an.done):=rfl;rw[←e1]at vZ;refine en L0 Tryz.f53 ?_;refine⟨[],[some 1],_,_,_,_,mM x.an,t3,cw ?_⟩;refine⟨[],[some 1],_,_,_,_,hre,t3,cw ?_⟩;generalize hrw:cM x.an n=U3 at vZ;obtain⟨l,w2⟩:=U3;have vZ:l.length≤x.an.l.length:=vZ;have hx1:x.an.done≤50000:=H.done.2
 refine⟨fun k f o c=>∃i:Nat,i≤l.length∧k=l.length - i∧c=1∧f=[(0,.ptr 0 0),(4,.s (.int .u64 x.an.done)),(19,.sl 7 (l.map b7) false),(20,.s (.int .i64 l.length)),(21,.s (.int .i64 i))]∧o=gA ((l.take i).foldl (eS x.st) {x with an:=w2}),⟨l.length,?_⟩,?_⟩
 ·refine⟨[],[some 0],_,_,_,tx ?_,⟨0,Nat.zero_le _,rfl,rfl,rfl,rfl⟩⟩;exact Lz.int (by rw[List.length_map])
 rintro k f1 o1 c1 ⟨i,hi,rfl,rfl,rfl,rfl⟩;refine wh ?_;refine sp ?_ ?_<;>intro h
 ·have h:i<l.length:=by have h:(i:Int)<l.length:=h
                        omega
  have EN:IntKind.i64.wrap ((i:Int)+1)=((i+1:Nat):Int):=IntWalk.i64_in _ om;have vJ:(l.take (i+1)).foldl (eS x.st) {x with an:=w2}=eS x.st ((l.take i).foldl (eS x.st) {x with an:=w2}) l[i]:=by rw[g8 l i h,List.foldl_append];rfl
  have Oj:=uC (l.take i) {x with an:=w2};rw[List.length_take]at Oj;generalize (l.take i).foldl (eS x.st) {x with an:=w2}=y at vJ Oj;have En:=Oj.out;have aN:=Of y.st l[i].ak;have Dn:=Hr l[i].ak;have Eo:y.st=x.st:=Oj.st;rw[Eo]at aN;have Ep:eS x.st y l[i]=(if y.role.head=true∧(gK x.st.t l[i].ak).2=true∧(gK x.st.t l[i].ak).1.seq=l[i].seq then BU y (gK x.st.t l[i].ak).1 else y):=rfl;generalize gK x.st.t l[i].ak=q at aN Dn Ep;obtain⟨r,ok⟩:=q;have En:y.out.length≤x.out.length+min i l.length:=En;have fI:=Ko y r om Dn;obtain⟨iH,SC,⟨yi,yj,yh,yt,yw,vK,vL,vM⟩,Ap,ke,iI,nK,nL,fo,iJ,fp,lY⟩:=y
  have Eo:Ap=x.st:=Eo;subst Eo;refine wh ?_;refine lW h ?_;refine wh ?_;refine⟨[],[some 2],_,_,_,_,aN,t3,cw ?_⟩;cases yh with
  |false=>
   rw[if_neg (fun q=>Bool.noConfusion q.1)]at Ep;refine wh ?_;refine⟨l.length - (i+1),?_,om⟩;rw[EN];exact⟨[],[some 0],_,_,_,t3,⟨i+1,h,rfl,rfl,rfl,(congrArg gA (vJ.trans Ep)).symm⟩⟩
  |true=>
   refine wh ?_;cases ok with
   |false=>
    rw[if_neg (fun q=>Bool.noConfusion q.2.1)]at Ep;refine wh ?_;refine⟨l.length - (i+1),?_,om⟩;rw[EN];exact⟨[],[some 0],_,_,_,t3,⟨i+1,h,rfl,rfl,rfl,(congrArg gA (vJ.trans Ep)).symm⟩⟩
   |true=>
    refine wh ?_;refine sp ?_ ?_<;>intro hq
    ·have hq:r.seq=l[i].seq:=hq;rw[if_pos ⟨rfl,rfl,hq⟩]at Ep;refine wh ?_;refine⟨[],[some 0],_,_,_,_,fI,t3,cw ?_⟩;refine⟨l.length - (i+1),?_,om⟩;rw[EN];exact⟨[],[some 0],_,_,_,t3,⟨i+1,h,rfl,rfl,rfl,(congrArg gA (vJ.trans Ep)).symm⟩⟩
    ·have hq:¬r.seq=l[i].seq:=hq;rw[if_neg (fun q=>hq q.2.2)]at Ep;refine wh ?_;refine⟨l.length - (i+1),?_,om⟩;rw[EN];exact⟨[],[some 0],_,_,_,t3,⟨i+1,h,rfl,rfl,rfl,(congrArg gA (vJ.trans Ep)).symm⟩⟩
 ·obtain rfl:i=l.length:=by have h:¬(i:Int)<l.length:=h;omega
  have Oj:=uC l {x with an:=w2};rw[List.take_length];have Pe:cA x n=(if x.an.done<w2.done∧x.role.DZ=true∧x.role.head=false then gL {l.foldl (eS x.st) {x with an:=w2}with st:=jG x.st w2.done}else {l.foldl (eS x.st) {x with an:=w2}with st:=jG x.st w2.done}):=by
   unfold cA;rw[hrw]
  rw[Pe];have Mb:sL w2:=by have:=Kq (n:=n) H hd h5;rw[hrw]at this;exact this
  have Tm:=Kn x.st w2.done Hs hb;generalize l.foldl (eS x.st) {x with an:=w2}=y at Oj;have En:y.out.length≤x.out.length+l.length:=Oj.out;have Eo:=Oj.st;have Ol:=Oj.an;have B0:=Oj.role;clear Oj Pe uC;obtain⟨iH,SC,SD,Ap,ke,iI,nK,nL,fo,iJ,fp,lY⟩:=y;have Eo:Ap=x.st:=Eo;have Ol:ke=w2:=Ol;have B0:SD=x.role:=B0;subst Eo Ol;rw[←B0];clear B0;obtain⟨yi,yj,yh,yt,yw,vK,vL,vM⟩:=SD;have gB:=sN ⟨iH,SC,⟨yi,yj,yh,yt,yw,vK,vL,vM⟩,jG x.st ke.done,ke,iI,nK,nL,fo,iJ,fp,lY⟩ (by show lY.length<100000;have En:lY.length≤_:=En;omega) Mb;refine wh ?_;refine⟨[],[some 2],_,_,_,_,mM ke,t3,cw ?_⟩
  refine⟨[],[some 1],_,_,_,_,Tm,t3,?_⟩;rintro r o' c' ⟨m,rfl,rfl,rfl⟩;refine wh ?_;refine⟨[],[some 2],_,_,_,_,mM ke,t3,cw ?_⟩;refine sp ?_ ?_<;>intro gG;rotate_left
  ·rw[if_neg (fun q=>gG q.1)];refine wh ?_;exact⟨[],[some 0],_,_,_,t3,rfl,rfl,rfl⟩
  have gG:x.an.done<ke.done:=gG;refine wh ?_;cases yi with
  |false=>
   rw[if_neg (fun q=>Bool.noConfusion q.2.1)];refine wh ?_;exact⟨[],[some 0],_,_,_,t3,rfl,rfl,rfl⟩
  |true=>
   refine wh ?_;cases yh with
   |true=>
    rw[if_neg (fun q=>Bool.noConfusion q.2.2)];refine wh ?_;exact⟨[],[some 0],_,_,_,t3,rfl,rfl,rfl⟩
   |false=>
    rw[if_pos ⟨gG,rfl,rfl⟩];refine wh ?_;refine⟨[],[some 0],_,_,_,_,gB,t3,cw ?_⟩;exact⟨[],[some 0],_,_,_,t3,rfl,rfl,rfl⟩
structure e7 (x:RS):Prop where
 an:sL x.an
 st:y8 x.st
 rows:ye x.st.t
 dn:x.an.done≤aE x.an
 e5:aE x.an≤40000
 bs:x.st.bs.length<13
 out:x.out.length<50000
structure jf (x:RS):Prop where
 an:sL x.an
 out:x.out.length<50000
 k:x.role.succ=0∨x.known=false∨(g9 x.an x.bl 4).isSome=true
theorem e7.done {x:RS} (G:e7 x) (n:Int) (hn:0≤n∧n≤1000000):VC E0 53 1 [.ptr 0 0,.s (.int .u64 n)] (gA x) (RR (.cY []) 1 (gA (cA x n))):=
 Oi x n G.out G.an G.st G.rows hn G.dn (by have:=G.e5;omega) G.bs
theorem jf.hand {x:RS} (G:jf x):VC E0 44 1 [.ptr 0 0] (gA x) (RR (.cY []) 1 (gA (cp x))):=
 Q3 x (by have:=G.out;omega) G.an G.k
theorem e7.Q4 {x:RS} (G:e7 x):0≤aE x.an∧aE x.an≤1000000:=by
 have h1:=G.an.low;have h2:=G.e5;have hE:aE x.an=x.an.low+(x.an.l.length:Nat):=rfl;omega
structure Er (x:RS) (u:bo):Prop where
 rng:Nr u
 YA:o9 u=0
 seq:u.seq - 1=aE x.an
 one:1≤u.seq
 room:x.an.l.length<9999
theorem Er.up {x:RS} {u:bo} (G:e7 x) (U:Er x u):VC E0 62 1 [.ptr 0 0,.agg (b7 u)] (gA x) (RR (.cY []) 1 (gA (rC x u))):=
 Kp x u G.an G.st U.rng U.YA U.seq U.one U.room
@[reducible] def u2 (x:RS) (u:bo):bo:={u with seq:=aE x.an+1}
@[reducible] def jg (x:RS) (u:bo):RS:=rC x (u2 x u)
@[reducible] def uj (x:RS) (u:bo):RS:=if x.role.tail=true then cA (jg x u) (aE (jg x u).an)else jg x u
theorem Aq {x:RS} {u:bo} (ho:x.df=true) (hj:bQ x.st.t u.ak u.num=0) (hd:iE x.an<16):gz x u=cp (uj x u):=by
 unfold gz;rw[if_neg (by rw[ho];exact Bool.noConfusion),if_neg (by rw[hj];decide),if_pos hj,if_pos hd]
theorem Om (x:RS) (f t ch e:Int) (u:bo) (G:e7 x) (ho:x.df=true) (hj:bQ x.st.t u.ak u.num=0) (hd:iE x.an<16) (U:Er x (u2 x u)) (G1:e7 (jg x u)) (G2:jf (uj x u)):
 VC E0 27 1 [.ptr 0 0,.agg (ai (Af f t ch e [u]))] (gA x) (RR (.cY []) 1 (gA (gz x u))):=by
 rw[Aq ho hj hd];have YB:=yd x.st u.ak u.num;rw[hj]at YB;have vp:=Eh x.an G.an G.dn;rw[decide_eq_true hd]at vp;have dX:=eG x.an G.an;have lD:=eG (jg x u).an G1.an;have sH:=U.up G;have dT:=G1.done (aE (jg x u).an) G1.Q4;have bh:=G2.hand;have HE:=G.Q4;have hw:IntKind.u64.wrap (aE x.an+1)=aE x.an+1:=IntWalk.u64_in _ om;have Wp:(jg x u).role=x.role:=rfl;obtain⟨node,au,⟨ri,rj,rh,rt,U3,YC,YD,YE⟩,st,an,base,df,bl,known,want,comes,out⟩:=x;have ho:df=true:=ho;subst ho;refine en L0 Tryz.f27 ?_;refine⟨b7 u,⟨by decide,rfl⟩,?_⟩;refine wh ?_;refine⟨[],[some 3],_,_,_,_,YB,t3,cw ?_⟩
 repeat((first|(refine⟨fun h_=>?_,fun h_=>?_⟩)|(refine ba (fun h_=>?_) (fun h_=>?_))|(refine a9 (fun h_=>?_) (fun h_=>?_)))<;>first|(exfalso;revert h_;decide;done)|(exact absurd rfl h_)|(have eo:=True.intro;clear eo;(conv=>whnf)))
 refine⟨[],[some 5],_,_,_,_,vp,t3,cw ?_⟩;refine⟨[],[some 5],_,_,_,_,dX,t3,cw ?_⟩;rw[hw];refine⟨[],[some 0],_,_,_,_,sH,t3,cw ?_⟩;cases rt with
 |true=>
  refine wh ?_;refine⟨[],[some 9],_,_,_,_,lD,t3,cw ?_⟩;refine⟨[],[some 0],_,_,_,_,dT,t3,cw ?_⟩;refine⟨[],[some 0],_,_,_,_,bh,t3,cw ?_⟩;exact⟨[],[some 0],_,_,_,t3,rfl,rfl,rfl⟩
 |false=>
  refine wh ?_;refine⟨[],[some 0],_,_,_,_,bh,t3,cw ?_⟩;exact⟨[],[some 0],_,_,_,t3,rfl,rfl,rfl⟩
structure fX (x y:RS):Prop where
 node:y.node=x.node
 au:y.au=x.au
 role:y.role=x.role
 df:y.df=x.df
 bl:y.bl=x.bl
 known:y.known=x.known
 comes:y.comes=x.comes
theorem fX.refl (x:RS):fX x x:=⟨rfl,rfl,rfl,rfl,rfl,rfl,rfl⟩
theorem fX.trans {x y z:RS} (h:fX x y) (k:fX y z):fX x z:=
 ⟨k.node.trans h.node,k.au.trans h.au,k.role.trans h.role,k.df.trans h.df,k.bl.trans h.bl,k.known.trans h.known,k.comes.trans h.comes⟩
theorem B3 (x:RS) (u:bo):fX x (rC x u):=⟨rfl,rfl,rfl,rfl,rfl,rfl,rfl⟩
theorem sO:∀(l:List bo) (x:RS),fX x (l.foldl rC x)
 |[],x=>.refl x
 |u::l,x=>(B3 x u).trans (sO l _)
theorem GJ (st:dG) (x:RS) (u:bo):fX x (eS st x u):=by
 unfold eS;split<;>exact⟨rfl,rfl,rfl,rfl,rfl,rfl,rfl⟩
theorem Ar (st:dG):∀(l:List bo) (x:RS),fX x (l.foldl (eS st) x)
 |[],x=>.refl x
 |u::l,x=>(GJ st x u).trans (Ar st l _)
theorem yf (x:RS):fX x (gL x):=by
 unfold gL;split<;>exact⟨rfl,rfl,rfl,rfl,rfl,rfl,rfl⟩
theorem fV (x:RS) (n:Int):fX x (cA x n):=by
 unfold cA;have h1:fX x {x with an:=(cM x.an n).2}:=⟨rfl,rfl,rfl,rfl,rfl,rfl,rfl⟩;have h2:=h1.trans (Ar x.st (cM x.an n).1 _);have h3:fX x {(cM x.an n).1.foldl (eS x.st) {x with an:=(cM x.an n).2}with st:=jG x.st (cM x.an n).2.done}:=⟨h2.node,h2.au,h2.role,h2.df,h2.bl,h2.known,h2.comes⟩;dsimp only
 split
 ·exact h3.trans (yf _)
 ·exact h3
def lE:List bo→Int→Int
 |[],a=>a
 |u::l,a=>if u.seq=0∨u.seq - 1≠a then lE l a else lE l u.seq
theorem uk:∀(l:List bo) (a:Int) (u:bo),bt (l++[u]) a=bt l a++(if u.seq=0∨u.seq - 1≠lE l a then []else [u])∧lE (l++[u]) a=(if u.seq=0∨u.seq - 1≠lE l a then lE l a else u.seq)
 |[],a,u=>by
  constructor
  ·show bt [u] a=[]++_;unfold bt lE;split<;>rfl
  ·show lE [u] a=_;unfold lE;split<;>rfl
 |x::l,a,u=>by
  show bt (x::(l++[u])) a=bt (x::l) a++_∧lE (x::(l++[u])) a=_;unfold bt lE;split
  ·exact uk l a u
  ·obtain⟨h1,h2⟩:=uk l x.seq u;exact⟨by rw[h1,List.cons_append],h2⟩
theorem pr:∀(l:List bo) (a:Int),(bt l a).length≤l.length
 |[],_=>Nat.le_refl _
 |u::l,a=>by
  unfold bt;split
  ·have:=pr l a;simp;omega
  ·have:=pr l u.seq;simp;omega
theorem Q5 (a:Int) (u:bo) (hu:Nr u) (h:u.seq=0∨u.seq - 1≠a):VC E0 105 1 [.agg (b7 u),.ptr 0 0] [(0,Iq a)] (RR (.s (.bool false)) 1 [(0,Iq a)]):=by
 have h1:=hu.seq;refine en L0 Tryz.f105 ?_;refine sp ?_ ?_<;>intro h0
 ·refine wh ?_;exact⟨[],[some 0],_,_,_,t3,rfl,rfl,rfl⟩
 ·have h0:¬u.seq=0:=h0;have hw:IntKind.u64.wrap (u.seq - 1)=u.seq - 1:=IntWalk.u64_in _ om;refine wh ?_;rw[hw];refine sp ?_ ?_<;>intro h2
  ·refine wh ?_;exact⟨[],[some 0],_,_,_,t3,rfl,rfl,rfl⟩
  ·exact absurd (h.resolve_left h0) h2
theorem On (a:Int) (u:bo) (hu:Nr u) (h:¬(u.seq=0∨u.seq - 1≠a)):VC E0 105 1 [.agg (b7 u),.ptr 0 0] [(0,Iq a)] (RR (.s (.bool true)) 1 [(0,Iq u.seq)]):=by
 have h1:=hu.seq;refine en L0 Tryz.f105 ?_;refine sp ?_ ?_<;>intro h0
 ·exact absurd (.inl h0) h
 ·have h0:¬u.seq=0:=h0;have hw:IntKind.u64.wrap (u.seq - 1)=u.seq - 1:=IntWalk.u64_in _ om;refine wh ?_;rw[hw];refine sp ?_ ?_<;>intro h2
  ·exact absurd (.inr h2) h
  ·refine wh ?_;exact⟨[],[some 0],_,_,_,t3,rfl,rfl,rfl⟩
@[reducible] def YF (a:Nat):TV:=.dc 105 [] [.ptr a 0]
theorem Oo (l:List bo) (a:Int) (hl:l.length<100000) (hd:∀u∈l,u.data.length≤2048∧Nr u):VC E0 104 1 [.sl 7 (l.map b7) false,YF 0] [(0,Iq a)]
 (RR (.sl 7 ((bt l a).map b7) false) 1 [(0,Iq (lE l a))]):=by
 refine en L0 Tryz.f104 ?_;refine⟨fun k f o c=>∃i:Nat,i≤l.length∧k=l.length - i∧c=2∧f=[(1,YF 0),(5,.tk 1),(8,.sl 7 (l.map b7) false),(9,.s (.int .i64 l.length)),(10,.s (.int .i64 i))]∧o=[(0,Iq (lE (l.take i) a)),(1,.arr 7 true ((bt (l.take i) a).map b7))],⟨l.length,?_⟩,?_⟩
 ·refine⟨[],[some 0,none],?_⟩
  iterate 3 constructor
  refine⟨⟨?_,?_,?_⟩,⟨0,Nat.zero_le _,rfl,rfl,rfl,rfl⟩⟩
  all_goals(repeat' first|exact LF|constructor)
  ·exact Lz.int (by rw[List.length_map])
 ·rintro k f1 o1 c1 ⟨i,hi,rfl,rfl,rfl,rfl⟩;refine wh ?_;refine sp ?_ ?_<;>intro h
  ·have h:i<l.length:=by have h:(i:Int)<l.length:=h
                         omega
   obtain⟨hs,he⟩:=uk (l.take i) a l[i];rw[←g8 l i h]at hs he;have qA:=pr (l.take i) a;rw[List.length_take]at qA;obtain⟨Sy,hui⟩:=hd _ (List.getElem_mem h);have EN:IntKind.i64.wrap ((i:Int)+1)=((i+1:Nat):Int):=IntWalk.i64_in _ om;refine wh ?_;refine lW h ?_;refine wh ?_;by_cases hq:l[i].seq=0∨l[i].seq - 1≠lE (l.take i) a
   ·rw[if_pos hq]at hs he;rw[List.append_nil]at hs;refine⟨[],[some 0],_,_,_,_,Q5 _ l[i] hui hq,t3,cw ?_⟩;refine⟨l.length - (i+1),?_,om⟩;rw[EN,←hs,←he];exact⟨[],[some 0,some 1],_,_,_,t3,⟨i+1,h,rfl,rfl,rfl,rfl⟩⟩
   ·rw[if_neg hq]at hs he;refine⟨[],[some 0],_,_,_,_,On _ l[i] hui hq,t3,cw ?_⟩;refine⟨[],[],_,_,_,_,pg l[i].data om,t3,cw ?_⟩;refine⟨by simp;omega,?_⟩;refine wh ?_;refine⟨l.length - (i+1),?_,om⟩;rw[EN];refine⟨[],[some 0,some 5],?_⟩
    iterate 3 constructor
    refine⟨⟨?_,?_,?_⟩,⟨i+1,h,rfl,rfl,rfl,rfl⟩⟩
    all_goals(repeat' first|exact LF|constructor)
    all_goals first|exact Lz.int he.symm|exact Lz.of (by rw[hs,List.map_append];rfl)
  ·obtain rfl:i=l.length:=by have h:¬(i:Int)<l.length:=h;omega
   rw[List.take_length];refine wh ?_;exact⟨[1],[some 0],_,_,_,t3,rfl,rfl,rfl⟩
theorem Oq (l:List bo) (a:Int) (hl:l.length<100000) (hd:∀u∈l,u.data.length≤2048∧Nr u):VC E0 63 0 [.sl 7 (l.map b7) false,.s (.int .u64 a)] [] (RR (.sl 7 ((bt l a).map b7) false) 0 []):=by
 refine en L0 Tryz.f63 ?_;refine⟨[],[some 0],_,_,_,_,Oo l a hl hd,t3,cw ?_⟩;exact⟨[],[],_,_,_,t3,rfl,rfl,rfl⟩
end Go.M
