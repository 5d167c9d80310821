/-
  Part 21 of the library that the proof leans on.
-/
import Derived.Test.YtjeejiegdkojdaaGreatDoorL12
import Derived.Test.YtjeejiegdkojdaaGreatDoorL20
import Derived.Test.YtjeejiegdkojdaaGreatDoorL18
import Derived.Test.YtjeejiegdkojdaaGreatDoorL19
namespace Go.M
open Go Go.Proofs
set_option maxRecDepth 100000
set_option maxHeartbeats 4000000
def SL:Fr→Fr→Prop
 |[],_=>True
 |p::l,f=>nQ f p.1=p.2∧SL l f
theorem SL.all {f:Fr}:∀{l:Fr},SL l f→∀t,nQ l t=nQ f t∨nQ l t= .j
 |[],_,t=>.inr rfl
 |p::l,h,t=>by
  rw[qh];split
  ·rename_i e;subst e;exact .inl h.1.symm
  ·exact SL.all h.2 t
@[reducible] def inT (x:MvI):TO:=.cells [.s (.int .u64 x.at_),.s (.int .i64 x.parts),.s (.int .i64 x.next),.own (.arr 1 true (iK x.b))]
@[reducible] def Va:TV:=.s (.pointer none)
@[reducible] def aev (q:TV) (x:RS):List TV:=[.s (.int .i64 x.node),.s (.int .i64 x.ao.chain),.s (.int .u64 x.ao.aJ),.sl 1 (x.ao.nodes.map gl) false,.s (.bool x.ao.fresh),.s (.int .i64 x.ao.join),
 .s (.bool x.role.m7),.s (.bool x.role.lP),.s (.bool x.role.head),.s (.bool x.role.tail),.s (.bool x.role.waits),.s (.int .i64 x.role.place),.s (.int .i64 x.role.pred),.s (.int .i64 x.role.succ),
 .own (PV x.st),.own (Xw x.ar),.s (.int .u64 x.base),.s (.bool x.cU),.s (.int .u64 x.bo),.s (.bool x.known),q,.s (.int .i64 x.want),.own (inT x.comes),.own (.arr 25 true (x.out.map aE))]
@[reducible] def lq (x:RS):TO:=.cells (aev Va x)
@[reducible] def gX (x:RS):Ob:=[(0,lq x)]
theorem Tg (x:RS) (l:Lr) (to:Int) (hl:x.out.length<100000):VC E0 123 1 [.ptr 0 0,.agg (aE l),.s (.int .i64 to)] (gX x) (RR (.dF []) 1 (gX (zT x l to))):=by
 refine en L0 Tryz.f123 ?_;refine sp ?_ ?_<;>intro hk
 ·have hk:l.kind≠18:=hk;have e:pG x l to={l with HZ:=x.node,to:=to,chain:=x.ao.chain,aJ:=x.ao.aJ}:=if_neg hk;refine wh ?_;refine⟨by simp;omega,?_⟩;refine wh ?_;refine⟨[],[some 0],?_⟩
  iterate 3 constructor
  refine⟨⟨?_,?_,?_⟩,rfl,rfl,rfl⟩
  all_goals(repeat' first|exact LF|constructor)
  all_goals exact Lz.of (by show _=(x.out++[pG x l to]).map aE;rw[e,List.map_append];rfl)
 ·have hk:l.kind=18:=Classical.not_not.1 hk;have e:pG x l to={l with HZ:=x.node,to:=to}:=if_pos hk;refine wh ?_;refine⟨by simp;omega,?_⟩;refine wh ?_;refine⟨[],[some 0],?_⟩
  iterate 3 constructor
  refine⟨⟨?_,?_,?_⟩,rfl,rfl,rfl⟩
  all_goals(repeat' first|exact LF|constructor)
  all_goals exact Lz.of (by show _=(x.out++[pG x l to]).map aE;rw[e,List.map_append];rfl)
theorem dH (x:RS):VC E0 48 1 [.ptr 0 0] (gX x) (RR (.tk 1) 2 [(0,lq (bG x)),(1,.arr 25 true (x.out.map aE))]):=by
 refine en L0 Tryz.f48 ?_;exact⟨[],[some 0,some 1],_,_,_,t3,rfl,rfl,rfl⟩
theorem L6 (x:RS) (r:iy) (hl:x.out.length<100000) (hr:0≤r.aj∧r.aj≤6):VC E0 105 1 [.ptr 0 0,.agg (Pz r)] (gX x) (RR (.dF []) 1 (gX (CY x r))):=by
 have hw:IntKind.i64.wrap (200+r.aj)=200+r.aj:=IntWalk.i64_in _ om;refine en L0 Tryz.f105 ?_;rw[hw];refine⟨[],[some 0],_,_,_,_,Tg x (Pl r) (200+r.aj) hl,t3,cw ?_⟩;exact⟨[],[some 0],_,_,_,t3,rfl,rfl,rfl⟩
theorem PY (x:MvI):VC E0 160 1 [.ptr 0 0] [(0,inT x)] (RR (.dF [.s (.int .u64 x.at_),.s (.int .i64 x.next)]) 1 [(0,inT x)]):=by
 refine en L0 Tryz.f160 ?_;exact⟨[],[some 0],_,_,_,t3,rfl,rfl,rfl⟩
theorem tD (x:RS) (hl:x.out.length<100000) (H:tC x.ar):VC E0 109 1 [.ptr 0 0] (gX x) (RR (.dF []) 1 (gX (ic x))):=by
 refine en L0 Tryz.f109 ?_;refine sp ?_ ?_<;>intro hp
 ·have e:ic x=x:=if_pos hp;rw[e];refine wh ?_;exact⟨[],[some 0],_,_,_,t3,rfl,rfl,rfl⟩
 have e:ic x=zT x (Xi x) x.role.pred:=if_neg hp;rw[e];have fF:=eO x.ar H;refine wh ?_;refine⟨[],[some 1],_,_,_,_,PY x.comes,t3,cw ?_⟩;refine⟨[],[some 3],_,_,_,_,fF,t3,cw ?_⟩;refine⟨[],[some 3],_,_,_,_,m8 x.ar,t3,cw ?_⟩;refine⟨[],[some 0],_,_,_,_,Tg x (Xi x) x.role.pred hl,t3,cw ?_⟩;exact⟨[],[some 0],_,_,_,t3,rfl,rfl,rfl⟩
theorem Th (x:RS) (hl:x.out.length<100000) (H:tC x.ar) (hk:x.role.succ=0∨x.known=false∨(je x.ar x.bo 4).isSome=true):VC E0 59 1 [.ptr 0 0] (gX x) (RR (.dF []) 1 (gX (cF x))):=by
 have fF:=eO x.ar H;obtain⟨node,ao,role,st,ar,base,cU,bo,known,want,comes,out⟩:=x;by_cases hs:role.succ=0
 ·have e:cF ⟨node,ao,role,st,ar,base,cU,bo,known,want,comes,out⟩=⟨node,ao,role,st,ar,base,cU,bo,known,want,comes,out⟩:=if_pos hs;rw[e];refine en L0 Tryz.f59 ?_;refine sp ?_ ?_<;>intro hz
  ·refine wh ?_;exact⟨[],[some 0],_,_,_,t3,rfl,rfl,rfl⟩
  ·exact absurd hs hz
 cases known
 ·have e:cF ⟨node,ao,role,st,ar,base,cU,bo,false,want,comes,out⟩=zT ⟨node,ao,role,st,ar,base,cU,bo,false,want,comes,out⟩ (qP ⟨node,ao,role,st,ar,base,cU,bo,false,want,comes,out⟩ []) role.succ:=by
   unfold cF;rw[if_neg hs,if_pos rfl]
  have FB:=Tg ⟨node,ao,role,st,ar,base,cU,bo,false,want,comes,out⟩ (qP ⟨node,ao,role,st,ar,base,cU,bo,false,want,comes,out⟩ []) role.succ hl;rw[e];refine en L0 Tryz.f59 ?_;refine sp ?_ ?_<;>intro hz
  ·exact absurd hz hs
  refine wh ?_;refine⟨[],[some 1],_,_,_,_,fF,t3,cw ?_⟩;refine⟨[],[some 0],_,_,_,_,FB,t3,cw ?_⟩;exact⟨[],[some 0],_,_,_,t3,rfl,rfl,rfl⟩
 ·obtain⟨l,hf⟩:=Option.isSome_iff_exists.1 (hk.resolve_left hs |>.resolve_left Bool.noConfusion);have e:cF ⟨node,ao,role,st,ar,base,cU,bo,true,want,comes,out⟩=zT ⟨node,ao,role,st,ar,base,cU,bo,true,want,comes,out⟩ (qP ⟨node,ao,role,st,ar,base,cU,bo,true,want,comes,out⟩ l) role.succ:=by
   unfold cF;rw[if_neg hs,if_neg (show¬(true=false)from Bool.noConfusion),hf]
  have Aa:=JK ar H bo 4 (by decide) l hf;have FB:=Tg ⟨node,ao,role,st,ar,base,cU,bo,true,want,comes,out⟩ (qP ⟨node,ao,role,st,ar,base,cU,bo,true,want,comes,out⟩ l) role.succ hl;rw[e];refine en L0 Tryz.f59 ?_;refine sp ?_ ?_<;>intro hz
  ·exact absurd hz hs
  refine wh ?_;refine⟨[],[some 1],_,_,_,_,fF,t3,cw ?_⟩;refine⟨[],[some 1],_,_,_,_,Aa,t3,cw ?_⟩;refine⟨[],[some 0],_,_,_,_,FB,t3,cw ?_⟩;exact⟨[],[some 0],_,_,_,t3,rfl,rfl,rfl⟩
theorem L7 (x:RS) (u:bd) (H:tC x.ar) (Hs:oK x.st) (hu:Pv u) (hc:qz u=0) (Wo:u.seq - 1=aO x.ar) (h0:1≤u.seq) (h:x.ar.l.length<9999):VC E0 107 1 [.ptr 0 0,.agg (b6 u)] (gX x) (RR (.dF []) 1 (gX (te x u))):=by
 have ha:=L4 x.st u Hs hu;have hw:=Te x.ar u H hc Wo h0 h;refine en L0 Tryz.f107 ?_;refine⟨[],[some 2],_,_,_,_,ha,t3,cw ?_⟩;refine⟨[],[some 4],_,_,_,_,hw,t3,cw ?_⟩;exact⟨[],[some 0],_,_,_,t3,rfl,rfl,rfl⟩
structure vK (x y:RS) (k:Nat):Prop where
 node:y.node=x.node
 ao:y.ao=x.ao
 role:y.role=x.role
 st:y.st=x.st
 ar:y.ar=x.ar
 comes:y.comes=x.comes
 out:y.out.length≤x.out.length+k
theorem vK.refl (x:RS):vK x x 0:=⟨rfl,rfl,rfl,rfl,rfl,rfl,Nat.le_refl _⟩
theorem vK.trans {x y z:RS} {a b:Nat} (h:vK x y a) (k:vK y z b):vK x z (a+b):=
 ⟨k.node.trans h.node,k.ao.trans h.ao,k.role.trans h.role,k.st.trans h.st,k.ar.trans h.ar,k.comes.trans h.comes,by have:=h.out;have:=k.out;omega⟩
theorem Ik (st:dp) (x:RS) (u:bd):vK x (eV st x u) 1:=by
 unfold eV;split
 ·exact⟨rfl,rfl,rfl,rfl,rfl,rfl,by show(x.out++[_]).length≤_;rw[List.length_append];exact Nat.le_refl _⟩
 ·exact⟨rfl,rfl,rfl,rfl,rfl,rfl,Nat.le_succ _⟩
theorem qq (st:dp):∀(l:List bd) (x:RS),vK x (l.foldl (eV st) x) l.length
 |[],x=>.refl x
 |u::l,x=>by
  have h:=(Ik st x u).trans (qq st l (eV st x u));rw[List.length_cons];exact⟨h.node,h.ao,h.role,h.st,h.ar,h.comes,by have:=h.out;show(l.foldl (eV st) (eV st x u)).out.length≤_;omega⟩
theorem PZ {w:gW} (H:tC w):tC (lQ w):=by
 have Bf:=H.done;have u5:=H.low;unfold lQ;split
 ·exact H
 ·exact⟨by show 0≤max w.low _∧max w.low _≤50000;omega,Bf,by show(w.l.drop _).length≤10000;rw[List.length_drop];have:=H.len;omega,fun u hu=>H.data u (List.mem_of_mem_drop hu)⟩
theorem L8 {w:gW} {n:Int} (H:tC w) (hd:w.done≤aO w) (h5:aO w≤50000):tC (cS w n).2:=by
 have hE:aO w=w.low+(w.l.length:Nat):=rfl;have Bf:=H.done;have u5:=H.low;have hr:w.done≤b5 w n∧b5 w n≤aO w:=by unfold b5;omega
 exact PZ (w:={w with done:=b5 w n}) ⟨H.low,by show 0≤b5 w n∧b5 w n≤50000;omega,H.len,H.data⟩
def y9 (t:ff):Prop:=∀c,0≤(iz t c).1.aj∧(iz t c).1.aj≤6
theorem P0 (x:RS) (n:Int) (hl:x.out.length<50000) (H:tC x.ar) (Hs:oK x.st) (Hr:y9 x.st.t) (hn:0≤n∧n≤1000000) (hd:x.ar.done≤aO x.ar) (h5:aO x.ar≤50000) (hb:x.st.bs.length<13):
 VC E0 97 1 [.ptr 0 0,.s (.int .u64 n)] (gX x) (RR (.dF []) 1 (gX (cO x n))):=by
 have KZ:=PL x.ar n H hn hd h5;have oN:=lf x.ar.done x.ar.l (b5 x.ar n - x.ar.done);have hle:=H.len;have vj:=qq x.st;have e1:(cS x.ar n).1=bR x.ar.done x.ar.l (b5 x.ar n - x.ar.done):=rfl;rw[←e1]at oN;refine en L0 Tryz.f97 ?_;refine⟨[],[some 1],_,_,_,_,m8 x.ar,t3,cw ?_⟩;refine⟨[],[some 1],_,_,_,_,KZ,t3,cw ?_⟩;generalize hrw:cS x.ar n=JN at oN;obtain⟨l,w2⟩:=JN;have oN:l.length≤x.ar.l.length:=oN;have hx1:x.ar.done≤50000:=H.done.2
 refine⟨fun k f o c=>∃i:Nat,i≤l.length∧k=l.length - i∧c=1∧f=[(0,.ptr 0 0),(4,.s (.int .u64 x.ar.done)),(19,.sl 7 (l.map b6) false),(20,.s (.int .i64 l.length)),(21,.s (.int .i64 i))]∧o=gX ((l.take i).foldl (eV x.st) {x with ar:=w2}),⟨l.length,?_⟩,?_⟩
 ·refine⟨[],[some 0],_,_,_,tx ?_,⟨0,Nat.zero_le _,rfl,rfl,rfl,rfl⟩⟩;exact Lz.int (by rw[List.length_map])
 rintro k f1 o1 c1 ⟨i,hi,rfl,rfl,rfl,rfl⟩;refine wh ?_;refine sp ?_ ?_<;>intro h
 ·have h:i<l.length:=by have h:(i:Int)<l.length:=h
                        omega
  have Gq:IntKind.i64.wrap ((i:Int)+1)=((i+1:Nat):Int):=IntWalk.i64_in _ om;have Gr:(l.take (i+1)).foldl (eV x.st) {x with ar:=w2}=eV x.st ((l.take i).foldl (eV x.st) {x with ar:=w2}) l[i]:=by rw[gj l i h,List.foldl_append];rfl
  have P1:=vj (l.take i) {x with ar:=w2};rw[List.length_take]at P1;generalize (l.take i).foldl (eV x.st) {x with ar:=w2}=y at Gr P1;have Vb:=P1.out;have gL:=PX y.st l[i].aj;have Eu:=Hr l[i].aj;have FC:y.st=x.st:=P1.st;rw[FC]at gL;have Ti:eV x.st y l[i]=(if y.role.head=true∧(iz x.st.t l[i].aj).2=true∧(iz x.st.t l[i].aj).1.seq=l[i].seq then CY y (iz x.st.t l[i].aj).1 else y):=rfl;generalize iz x.st.t l[i].aj=q at gL Eu Ti;obtain⟨r,ok⟩:=q;have Vb:y.out.length≤x.out.length+min i l.length:=Vb;have oL:=L6 y r om Eu;obtain⟨iT,Vc,⟨yi,yj,yh,yt,yw,wM,wN,wO⟩,Bj,kE,iU,oh,oi,fu,iV,fv,mA⟩:=y
  have FC:Bj=x.st:=FC;subst FC;refine wh ?_;refine sZ h ?_;refine wh ?_;refine⟨[],[some 2],_,_,_,_,gL,t3,cw ?_⟩;cases yh with
  |false=>
   rw[if_neg (fun q=>Bool.noConfusion q.1)]at Ti;refine wh ?_;refine⟨l.length - (i+1),?_,om⟩;rw[Gq];exact⟨[],[some 0],_,_,_,t3,⟨i+1,h,rfl,rfl,rfl,(congrArg gX (Gr.trans Ti)).symm⟩⟩
  |true=>
   refine wh ?_;cases ok with
   |false=>
    rw[if_neg (fun q=>Bool.noConfusion q.2.1)]at Ti;refine wh ?_;refine⟨l.length - (i+1),?_,om⟩;rw[Gq];exact⟨[],[some 0],_,_,_,t3,⟨i+1,h,rfl,rfl,rfl,(congrArg gX (Gr.trans Ti)).symm⟩⟩
   |true=>
    refine wh ?_;refine sp ?_ ?_<;>intro hq
    ·have hq:r.seq=l[i].seq:=hq;rw[if_pos ⟨rfl,rfl,hq⟩]at Ti;refine wh ?_;refine⟨[],[some 0],_,_,_,_,oL,t3,cw ?_⟩;refine⟨l.length - (i+1),?_,om⟩;rw[Gq];exact⟨[],[some 0],_,_,_,t3,⟨i+1,h,rfl,rfl,rfl,(congrArg gX (Gr.trans Ti)).symm⟩⟩
    ·have hq:¬r.seq=l[i].seq:=hq;rw[if_neg (fun q=>hq q.2.2)]at Ti;refine wh ?_;refine⟨l.length - (i+1),?_,om⟩;rw[Gq];exact⟨[],[some 0],_,_,_,t3,⟨i+1,h,rfl,rfl,rfl,(congrArg gX (Gr.trans Ti)).symm⟩⟩
 ·obtain rfl:i=l.length:=by have h:¬(i:Int)<l.length:=h;omega
  have P1:=vj l {x with ar:=w2};rw[List.take_length];have Q8:cO x n=(if x.ar.done<w2.done∧x.role.m7=true∧x.role.head=false then ic {l.foldl (eV x.st) {x with ar:=w2}with st:=gV x.st w2.done}else {l.foldl (eV x.st) {x with ar:=w2}with st:=gV x.st w2.done}):=by
   unfold cO;rw[hrw]
  rw[Q8];have xT:tC w2:=by have:=L8 (n:=n) H hd h5;rw[hrw]at this;exact this
  have VV:=L5 x.st w2.done Hs hb;generalize l.foldl (eV x.st) {x with ar:=w2}=y at P1;have Vb:y.out.length≤x.out.length+l.length:=P1.out;have FC:=P1.st;have P2:=P1.ar;have C9:=P1.role;clear P1 Q8 vj;obtain⟨iT,Vc,Vd,Bj,kE,iU,oh,oi,fu,iV,fv,mA⟩:=y;have FC:Bj=x.st:=FC;have P2:kE=w2:=P2;have C9:Vd=x.role:=C9;subst FC P2;rw[←C9];clear C9;obtain⟨yi,yj,yh,yt,yw,wM,wN,wO⟩:=Vd;have gI:=tD ⟨iT,Vc,⟨yi,yj,yh,yt,yw,wM,wN,wO⟩,gV x.st kE.done,kE,iU,oh,oi,fu,iV,fv,mA⟩ (by show mA.length<100000;have Vb:mA.length≤_:=Vb;omega) xT;refine wh ?_;refine⟨[],[some 2],_,_,_,_,m8 kE,t3,cw ?_⟩
  refine⟨[],[some 1],_,_,_,_,VV,t3,?_⟩;rintro r o' c' ⟨m,rfl,rfl,rfl⟩;refine wh ?_;refine⟨[],[some 2],_,_,_,_,m8 kE,t3,cw ?_⟩;refine sp ?_ ?_<;>intro eC;rotate_left
  ·rw[if_neg (fun q=>eC q.1)];refine wh ?_;exact⟨[],[some 0],_,_,_,t3,rfl,rfl,rfl⟩
  have eC:x.ar.done<kE.done:=eC;refine wh ?_;cases yi with
  |false=>
   rw[if_neg (fun q=>Bool.noConfusion q.2.1)];refine wh ?_;exact⟨[],[some 0],_,_,_,t3,rfl,rfl,rfl⟩
  |true=>
   refine wh ?_;cases yh with
   |true=>
    rw[if_neg (fun q=>Bool.noConfusion q.2.2)];refine wh ?_;exact⟨[],[some 0],_,_,_,t3,rfl,rfl,rfl⟩
   |false=>
    rw[if_pos ⟨eC,rfl,rfl⟩];refine wh ?_;refine⟨[],[some 0],_,_,_,_,gI,t3,cw ?_⟩;exact⟨[],[some 0],_,_,_,t3,rfl,rfl,rfl⟩
structure fB (x:RS):Prop where
 ar:tC x.ar
 st:oK x.st
 rows:y9 x.st.t
 dn:x.ar.done≤aO x.ar
 e5:aO x.ar≤40000
 bs:x.st.bs.length<13
 out:x.out.length<50000
structure js (x:RS):Prop where
 ar:tC x.ar
 out:x.out.length<50000
 k:x.role.succ=0∨x.known=false∨(je x.ar x.bo 4).isSome=true
theorem fB.done {x:RS} (G:fB x) (n:Int) (hn:0≤n∧n≤1000000):VC E0 97 1 [.ptr 0 0,.s (.int .u64 n)] (gX x) (RR (.dF []) 1 (gX (cO x n))):=
 P0 x n G.out G.ar G.st G.rows hn G.dn (by have:=G.e5;omega) G.bs
theorem js.hand {x:RS} (G:js x):VC E0 59 1 [.ptr 0 0] (gX x) (RR (.dF []) 1 (gX (cF x))):=
 Th x (by have:=G.out;omega) G.ar G.k
theorem fB.Xy {x:RS} (G:fB x):0≤aO x.ar∧aO x.ar≤1000000:=by
 have h1:=G.ar.low;have h2:=G.e5;have hE:aO x.ar=x.ar.low+(x.ar.l.length:Nat):=rfl;omega
structure FD (x:RS) (u:bd):Prop where
 rng:Pv u
 chk:qz u=0
 seq:u.seq - 1=aO x.ar
 one:1≤u.seq
 room:x.ar.l.length<9999
theorem FD.up {x:RS} {u:bd} (G:fB x) (U:FD x u):VC E0 107 1 [.ptr 0 0,.agg (b6 u)] (gX x) (RR (.dF []) 1 (gX (te x u))):=
 L7 x u G.ar G.st U.rng U.chk U.seq U.one U.room
@[reducible] def u2 (x:RS) (u:bd):bd:={u with seq:=aO x.ar+1}
@[reducible] def jU (x:RS) (u:bd):RS:=te x (u2 x u)
@[reducible] def v8 (x:RS) (u:bd):RS:=if x.role.tail=true then cO (jU x u) (aO (jU x u).ar)else jU x u
theorem Bk {x:RS} {u:bd} (ho:x.cU=true) (hj:bV x.st.t u.aj u.num=0) (hd:jr x.ar<16):gG x u=cF (v8 x u):=by
 unfold gG;rw[if_neg (by rw[ho];exact Bool.noConfusion),if_neg (by rw[hj];decide),if_pos hj,if_pos hd]
theorem P3 (x:RS) (f t ch e:Int) (u:bd) (G:fB x) (ho:x.cU=true) (hj:bV x.st.t u.aj u.num=0) (hd:jr x.ar<16) (U:FD x (u2 x u)) (G1:fB (jU x u)) (G2:js (v8 x u)):
 VC E0 44 1 [.ptr 0 0,.agg (aE (wJ f t ch e [u]))] (gX x) (RR (.dF []) 1 (gX (gG x u))):=by
 rw[Bk ho hj hd];have hju:=y8 x.st u.aj u.num;rw[hj]at hju;have tU:=Fv x.ar G.ar G.dn;rw[decide_eq_true hd]at tU;have fF:=eO x.ar G.ar;have lS:=eO (jU x u).ar G1.ar;have tf:=U.up G;have fN:=G1.done (aO (jU x u).ar) G1.Xy;have bk:=G2.hand;have vu:=G.Xy;have hw:IntKind.u64.wrap (aO x.ar+1)=aO x.ar+1:=IntWalk.u64_in _ om;have Y4:(jU x u).role=x.role:=rfl;obtain⟨node,ao,⟨ri,rj,rh,rt,JN,M5,L9,JO⟩,st,ar,base,cU,bo,known,want,comes,out⟩:=x;have ho:cU=true:=ho;subst ho;refine en L0 Tryz.f44 ?_;refine⟨b6 u,⟨by decide,rfl⟩,?_⟩;refine wh ?_;refine⟨[],[some 3],_,_,_,_,hju,t3,cw ?_⟩
 repeat((first|(refine⟨fun h_=>?_,fun h_=>?_⟩)|(refine aA (fun h_=>?_) (fun h_=>?_))|(refine az (fun h_=>?_) (fun h_=>?_)))<;>first|(exfalso;revert h_;decide;done)|(exact absurd rfl h_)|(have bq:=True.intro;clear bq;(conv=>whnf)))
 refine⟨[],[some 5],_,_,_,_,tU,t3,cw ?_⟩;refine⟨[],[some 5],_,_,_,_,fF,t3,cw ?_⟩;rw[hw];refine⟨[],[some 0],_,_,_,_,tf,t3,cw ?_⟩;cases rt with
 |true=>
  refine wh ?_;refine⟨[],[some 9],_,_,_,_,lS,t3,cw ?_⟩;refine⟨[],[some 0],_,_,_,_,fN,t3,cw ?_⟩;refine⟨[],[some 0],_,_,_,_,bk,t3,cw ?_⟩;exact⟨[],[some 0],_,_,_,t3,rfl,rfl,rfl⟩
 |false=>
  refine wh ?_;refine⟨[],[some 0],_,_,_,_,bk,t3,cw ?_⟩;exact⟨[],[some 0],_,_,_,t3,rfl,rfl,rfl⟩
structure fY (x y:RS):Prop where
 node:y.node=x.node
 ao:y.ao=x.ao
 role:y.role=x.role
 cU:y.cU=x.cU
 bo:y.bo=x.bo
 known:y.known=x.known
 comes:y.comes=x.comes
theorem fY.refl (x:RS):fY x x:=⟨rfl,rfl,rfl,rfl,rfl,rfl,rfl⟩
theorem fY.trans {x y z:RS} (h:fY x y) (k:fY y z):fY x z:=
 ⟨k.node.trans h.node,k.ao.trans h.ao,k.role.trans h.role,k.cU.trans h.cU,k.bo.trans h.bo,k.known.trans h.known,k.comes.trans h.comes⟩
theorem Da (x:RS) (u:bd):fY x (te x u):=⟨rfl,rfl,rfl,rfl,rfl,rfl,rfl⟩
theorem tF:∀(l:List bd) (x:RS),fY x (l.foldl te x)
 |[],x=>.refl x
 |u::l,x=>(Da x u).trans (tF l _)
theorem Il (st:dp) (x:RS) (u:bd):fY x (eV st x u):=by
 unfold eV;split<;>exact⟨rfl,rfl,rfl,rfl,rfl,rfl,rfl⟩
theorem Bl (st:dp):∀(l:List bd) (x:RS),fY x (l.foldl (eV st) x)
 |[],x=>.refl x
 |u::l,x=>(Il st x u).trans (Bl st l _)
theorem za (x:RS):fY x (ic x):=by
 unfold ic;split<;>exact⟨rfl,rfl,rfl,rfl,rfl,rfl,rfl⟩
theorem ir (x:RS) (n:Int):fY x (cO x n):=by
 unfold cO;have h1:fY x {x with ar:=(cS x.ar n).2}:=⟨rfl,rfl,rfl,rfl,rfl,rfl,rfl⟩;have h2:=h1.trans (Bl x.st (cS x.ar n).1 _);have h3:fY x {(cS x.ar n).1.foldl (eV x.st) {x with ar:=(cS x.ar n).2}with st:=gV x.st (cS x.ar n).2.done}:=⟨h2.node,h2.ao,h2.role,h2.cU,h2.bo,h2.known,h2.comes⟩;dsimp only
 split
 ·exact h3.trans (za _)
 ·exact h3
def lT:List bd→Int→Int
 |[],a=>a
 |u::l,a=>if u.seq=0∨u.seq - 1≠a then lT l a else lT l u.seq
theorem uQ:∀(l:List bd) (a:Int) (u:bd),bz (l++[u]) a=bz l a++(if u.seq=0∨u.seq - 1≠lT l a then []else [u])∧lT (l++[u]) a=(if u.seq=0∨u.seq - 1≠lT l a then lT l a else u.seq)
 |[],a,u=>by
  constructor
  ·show bz [u] a=[]++_;unfold bz lT;split<;>rfl
  ·show lT [u] a=_;unfold lT;split<;>rfl
 |x::l,a,u=>by
  show bz (x::(l++[u])) a=bz (x::l) a++_∧lT (x::(l++[u])) a=_;unfold bz lT;split
  ·exact uQ l a u
  ·obtain⟨h1,h2⟩:=uQ l x.seq u;exact⟨by rw[h1,List.cons_append],h2⟩
theorem pN:∀(l:List bd) (a:Int),(bz l a).length≤l.length
 |[],_=>Nat.le_refl _
 |u::l,a=>by
  unfold bz;split
  ·have:=pN l a;simp;omega
  ·have:=pN l u.seq;simp;omega
theorem Tj (a:Int) (u:bd) (hu:Pv u) (h:u.seq=0∨u.seq - 1≠a):VC E0 159 1 [.agg (b6 u),.ptr 0 0] [(0,JJ a)] (RR (.s (.bool false)) 1 [(0,JJ a)]):=by
 have h1:=hu.seq;refine en L0 Tryz.f159 ?_;refine sp ?_ ?_<;>intro h0
 ·refine wh ?_;exact⟨[],[some 0],_,_,_,t3,rfl,rfl,rfl⟩
 ·have h0:¬u.seq=0:=h0;have hw:IntKind.u64.wrap (u.seq - 1)=u.seq - 1:=IntWalk.u64_in _ om;refine wh ?_;rw[hw];refine sp ?_ ?_<;>intro h2
  ·refine wh ?_;exact⟨[],[some 0],_,_,_,t3,rfl,rfl,rfl⟩
  ·exact absurd (h.resolve_left h0) h2
theorem P4 (a:Int) (u:bd) (hu:Pv u) (h:¬(u.seq=0∨u.seq - 1≠a)):VC E0 159 1 [.agg (b6 u),.ptr 0 0] [(0,JJ a)] (RR (.s (.bool true)) 1 [(0,JJ u.seq)]):=by
 have h1:=hu.seq;refine en L0 Tryz.f159 ?_;refine sp ?_ ?_<;>intro h0
 ·exact absurd (.inl h0) h
 ·have h0:¬u.seq=0:=h0;have hw:IntKind.u64.wrap (u.seq - 1)=u.seq - 1:=IntWalk.u64_in _ om;refine wh ?_;rw[hw];refine sp ?_ ?_<;>intro h2
  ·exact absurd (.inr h2) h
  ·refine wh ?_;exact⟨[],[some 0],_,_,_,t3,rfl,rfl,rfl⟩
@[reducible] def abg (a:Nat):TV:=.cH 159 [] [.ptr a 0]
theorem P5 (l:List bd) (a:Int) (hl:l.length<100000) (hd:∀u∈l,u.data.length≤2048∧Pv u):VC E0 158 1 [.sl 7 (l.map b6) false,abg 0] [(0,JJ a)]
 (RR (.sl 7 ((bz l a).map b6) false) 1 [(0,JJ (lT l a))]):=by
 refine en L0 Tryz.f158 ?_;refine⟨fun k f o c=>∃i:Nat,i≤l.length∧k=l.length - i∧c=2∧f=[(1,abg 0),(5,.tk 1),(8,.sl 7 (l.map b6) false),(9,.s (.int .i64 l.length)),(10,.s (.int .i64 i))]∧o=[(0,JJ (lT (l.take i) a)),(1,.arr 7 true ((bz (l.take i) a).map b6))],⟨l.length,?_⟩,?_⟩
 ·refine⟨[],[some 0,none],?_⟩
  iterate 3 constructor
  refine⟨⟨?_,?_,?_⟩,⟨0,Nat.zero_le _,rfl,rfl,rfl,rfl⟩⟩
  all_goals(repeat' first|exact LF|constructor)
  ·exact Lz.int (by rw[List.length_map])
 ·rintro k f1 o1 c1 ⟨i,hi,rfl,rfl,rfl,rfl⟩;refine wh ?_;refine sp ?_ ?_<;>intro h
  ·have h:i<l.length:=by have h:(i:Int)<l.length:=h
                         omega
   obtain⟨hs,he⟩:=uQ (l.take i) a l[i];rw[←gj l i h]at hs he;have ud:=pN (l.take i) a;rw[List.length_take]at ud;obtain⟨U7,hui⟩:=hd _ (List.getElem_mem h);have Gq:IntKind.i64.wrap ((i:Int)+1)=((i+1:Nat):Int):=IntWalk.i64_in _ om;refine wh ?_;refine sZ h ?_;refine wh ?_;by_cases hq:l[i].seq=0∨l[i].seq - 1≠lT (l.take i) a
   ·rw[if_pos hq]at hs he;rw[List.append_nil]at hs;refine⟨[],[some 0],_,_,_,_,Tj _ l[i] hui hq,t3,cw ?_⟩;refine⟨l.length - (i+1),?_,om⟩;rw[Gq,←hs,←he];exact⟨[],[some 0,some 1],_,_,_,t3,⟨i+1,h,rfl,rfl,rfl,rfl⟩⟩
   ·rw[if_neg hq]at hs he;refine⟨[],[some 0],_,_,_,_,P4 _ l[i] hui hq,t3,cw ?_⟩;refine⟨[],[],_,_,_,_,pI l[i].data om,t3,cw ?_⟩;refine⟨by simp;omega,?_⟩;refine wh ?_;refine⟨l.length - (i+1),?_,om⟩;rw[Gq];refine⟨[],[some 0,some 5],?_⟩
    iterate 3 constructor
    refine⟨⟨?_,?_,?_⟩,⟨i+1,h,rfl,rfl,rfl,rfl⟩⟩
    all_goals(repeat' first|exact LF|constructor)
    all_goals first|exact Lz.int he.symm|exact Lz.of (by rw[hs,List.map_append];rfl)
  ·obtain rfl:i=l.length:=by have h:¬(i:Int)<l.length:=h;omega
   rw[List.take_length];refine wh ?_;exact⟨[1],[some 0],_,_,_,t3,rfl,rfl,rfl⟩
theorem P6 (l:List bd) (a:Int) (hl:l.length<100000) (hd:∀u∈l,u.data.length≤2048∧Pv u):VC E0 108 0 [.sl 7 (l.map b6) false,.s (.int .u64 a)] [] (RR (.sl 7 ((bz l a).map b6) false) 0 []):=by
 refine en L0 Tryz.f108 ?_;refine⟨[],[some 0],_,_,_,_,P5 l a hl hd,t3,cw ?_⟩;exact⟨[],[],_,_,_,t3,rfl,rfl,rfl⟩
@[reducible] def fO (x:RS) (us:List bd):RS:=(bz us (aO x.ar)).foldl te x
@[reducible] def oC (x:RS) (us:List bd):RS:=if x.role.tail=true∨x.role.lP=true then cO (fO x us) (aO (fO x us).ar)else fO x us
@[reducible] def Dy (x:RS) (d:Int) (us:List bd):RS:=if x.role.tail=true∧x.ao.fresh=true∧d≤aO (oC x us).ar then {oC x us with cU:=true}else oC x us
theorem FE {x:RS} {d:Int} {us:List bd}:pH x d us=(if 0<(bz us (aO x.ar)).length∧(ic (Dy x d us)).known=true then cF (ic (Dy x d us))else ic (Dy x d us)):=rfl
theorem Ma (x:RS) (f t ch e s d:Int) (us:List bd) (G:fB x) (htj:x.role.tail=true→x.role.lP=false) (hl:us.length≤4) (hd:∀u∈us,u.data.length≤2048∧Pv u)
 (tf:∀(i:Nat) (h:i<(bz us (aO x.ar)).length),fB (((bz us (aO x.ar)).take i).foldl te x)∧FD (((bz us (aO x.ar)).take i).foldl te x) (bz us (aO x.ar))[i])
 (G1:fB (fO x us)) (G2:js (ic (Dy x d us))) (G3:fB (oC x us)):
 VC E0 45 1 [.ptr 0 0,.agg (aE (r7 f t ch e s d us))] (gX x) (RR (.dF []) 1 (gX (pH x d us))):=by
 rw[FE];have fF:=eO x.ar G.ar;have ud:=pN us (aO x.ar);have nG:=P6 us (aO x.ar) om hd;have lS:=eO (fO x us).ar G1.ar;have fN:=G1.done (aO (fO x us).ar) G1.Xy;have Fu:(Dy x d us).ar=(oC x us).ar∧(Dy x d us).out=(oC x us).out:=by unfold Dy;split<;>exact⟨rfl,rfl⟩
 have gI:=tD (Dy x d us) (by have:=G3.out;rw[Fu.2];omega) (by rw[Fu.1];exact G3.ar);have gq:=eO (oC x us).ar G3.ar;have bk:=G2.hand;have qj:=tF (bz us (aO x.ar)) x;have qk:=(tF (bz us (aO x.ar)) x).trans (ir (fO x us) (aO (fO x us).ar));refine en L0 Tryz.f45 ?_;refine⟨[],[some 2],_,_,_,_,fF,t3,cw ?_⟩;refine⟨[],[],_,_,_,_,nG,t3,cw ?_⟩;generalize abh:bz us (aO x.ar)=l at ud tf qj
 refine⟨fun k f_ o c=>∃i:Nat,i≤l.length∧k=l.length - i∧c=2∧f_=[(0,.ptr 0 0),(3,.ptr 1 0),(16,.sl 7 (l.map b6) false),(17,.s (.int .i64 l.length)),(18,.s (.int .i64 i))]∧o=[(0,lq ((l.take i).foldl te x)),(1,.cells (aE (r7 f t ch e s d l)))],⟨l.length,?_⟩,?_⟩
 ·refine⟨[],[some 0,some 1],_,_,_,tx ?_,⟨0,Nat.zero_le _,rfl,rfl,rfl,rfl⟩⟩;exact Lz.int (by rw[List.length_map])
 rintro k f1 o1 c1 ⟨i,hi,rfl,rfl,rfl,rfl⟩;refine wh ?_;refine sp ?_ ?_<;>intro h
 ·have h:i<l.length:=by have h:(i:Int)<l.length:=h
                        omega
  have Gq:IntKind.i64.wrap ((i:Int)+1)=((i+1:Nat):Int):=IntWalk.i64_in _ om;obtain⟨Gi,Ui⟩:=tf i h;have AA:=Ui.up Gi;have Gr:(l.take (i+1)).foldl te x=te ((l.take i).foldl te x) l[i]:=by rw[gj l i h,List.foldl_append];rfl
  generalize (l.take i).foldl te x=y at Gr AA;refine wh ?_;refine sZ h ?_;refine wh ?_;refine⟨[],[some 0],_,_,_,_,AA,t3,cw ?_⟩;refine⟨l.length - (i+1),?_,om⟩;rw[Gq];exact⟨[],[some 0,some 1],_,_,_,t3,⟨i+1,h,rfl,rfl,rfl,congrArg (fun z=>[(0,lq z),(1,.cells (aE (r7 f t ch e s d l)))]) Gr.symm⟩⟩
 ·obtain rfl:i=l.length:=by have h:¬(i:Int)<l.length:=h;omega
  rw[List.take_length];have hy:l.foldl te x=fO x us:=by show _=(bz us (aO x.ar)).foldl te x;rw[abh]
  rw[hy]at qj ⊢
  try rw[abh]
  have qk:=ir (fO x us) (aO (fO x us).ar);cases ht:x.role.tail with
  |true=>
   have hj:=htj ht;have e2:oC x us=cO (fO x us) (aO (fO x us).ar):=by
    show(if x.role.tail=true∨x.role.lP=true then cO (fO x us) (aO (fO x us).ar)else fO x us)=_;rw[ht];exact if_pos (.inl rfl)
   cases hf:x.ao.fresh with
   |false=>
    have e3:Dy x d us=oC x us:=if_neg (fun q=>by rw[hf]at q;exact Bool.noConfusion q.2.1);rw[e3,e2]at gI bk;rw[e3,e2];clear gq;generalize ic (cO (fO x us) (aO (fO x us).ar))=w at gI bk ⊢;obtain⟨Bm,Bn,Bo,YT,Mb,Bp,Mc,Md,jt,Bq,uR,Me⟩:=w;clear tf G1 G2 G3 e2 e3 hy fF nG Fu;generalize fO x us=y at qj lS fN gI bk qk ⊢;have jX:=qj.role;have kp:=qj.ao;rw[←jX]at hj ht;rw[←kp]at hf;clear qj jX kp;obtain⟨iT,⟨zX,zY,zZ,Mf,z5⟩,⟨yi,yj,yh,yt,yw,wM,wN,wO⟩,Bj,kE,iU,oh,oi,fu,iV,fv,mA⟩:=y;have hj:yj=false:=hj;have hf:Mf=false:=hf;have ht:yt=true:=ht;subst hj hf ht
    generalize cO ⟨iT,⟨zX,zY,zZ,false,z5⟩,⟨yi,false,yh,true,yw,wM,wN,wO⟩,Bj,kE,iU,oh,oi,fu,iV,fv,mA⟩ (aO (⟨iT,⟨zX,zY,zZ,false,z5⟩,⟨yi,false,yh,true,yw,wM,wN,wO⟩,Bj,kE,iU,oh,oi,fu,iV,fv,mA⟩:RS).ar)=z at fN gI bk qk ⊢;have pX:=qk.role;have tT:=qk.ao;clear qk;obtain⟨Br,pO,pP,YU,Mg,Bs,Mh,Mi,uS,Bt,uT,Mj⟩:=z;have pX:pP=⟨yi,false,yh,true,yw,wM,wN,wO⟩:=pX;have tT:pO=⟨zX,zY,zZ,false,z5⟩:=tT;subst pX tT;refine wh ?_;refine⟨[],[some 2],_,_,_,_,lS,t3,cw ?_⟩;refine⟨[],[some 0],_,_,_,_,fN,t3,cw ?_⟩;refine⟨[],[some 0],_,_,_,_,gI,t3,cw ?_⟩;refine sp ?_ ?_<;>intro eC
    ·have eC:0<l.length:=by have q:(((l.map b6).length:Nat):Int)>0:=eC
                            rw[List.length_map]at q;omega
     refine wh ?_;cases jt with
     |true=>
      rw[if_pos ⟨eC,rfl⟩];refine wh ?_;refine⟨[],[some 0],_,_,_,_,bk,t3,cw ?_⟩;exact⟨[],[some 0],_,_,_,t3,rfl,rfl,rfl⟩
     |false=>
      rw[if_neg (fun q=>Bool.noConfusion q.2)];refine wh ?_;exact⟨[],[some 0],_,_,_,t3,rfl,rfl,rfl⟩
    ·have eC:¬0<l.length:=fun q=>eC (by show(((l.map b6).length:Nat):Int)>0;rw[List.length_map];omega);rw[if_neg (fun q=>eC q.1)];refine wh ?_;exact⟨[],[some 0],_,_,_,t3,rfl,rfl,rfl⟩
   |true=>
    by_cases h3:d≤aO (oC x us).ar
    ·have e3:Dy x d us={oC x us with cU:=true}:=if_pos ⟨ht,hf,h3⟩;rw[e3,e2]at gI bk;rw[e3,e2];rw[e2]at gq h3;generalize ic ({cO (fO x us) (aO (fO x us).ar)with cU:=true}:RS)=w at gI bk ⊢;obtain⟨Bm,Bn,Bo,YT,Mb,Bp,Mc,Md,jt,Bq,uR,Me⟩:=w;clear tf G1 G2 G3 e2 e3 hy fF nG Fu;generalize fO x us=y at qj lS fN gI bk qk gq h3 ⊢;have jX:=qj.role;have kp:=qj.ao;rw[←jX]at hj ht;rw[←kp]at hf;clear qj jX kp;obtain⟨iT,⟨zX,zY,zZ,Mf,z5⟩,⟨yi,yj,yh,yt,yw,wM,wN,wO⟩,Bj,kE,iU,oh,oi,fu,iV,fv,mA⟩:=y;have hj:yj=false:=hj;have hf:Mf=true:=hf;have ht:yt=true:=ht;subst hj hf ht
     generalize cO ⟨iT,⟨zX,zY,zZ,true,z5⟩,⟨yi,false,yh,true,yw,wM,wN,wO⟩,Bj,kE,iU,oh,oi,fu,iV,fv,mA⟩ (aO (⟨iT,⟨zX,zY,zZ,true,z5⟩,⟨yi,false,yh,true,yw,wM,wN,wO⟩,Bj,kE,iU,oh,oi,fu,iV,fv,mA⟩:RS).ar)=z at fN gI bk qk gq h3 ⊢;have pX:=qk.role;have tT:=qk.ao;clear qk;obtain⟨Br,pO,pP,YU,Mg,Bs,Mh,Mi,uS,Bt,uT,Mj⟩:=z;have pX:pP=⟨yi,false,yh,true,yw,wM,wN,wO⟩:=pX;have tT:pO=⟨zX,zY,zZ,true,z5⟩:=tT;subst pX tT;refine wh ?_;refine⟨[],[some 2],_,_,_,_,lS,t3,cw ?_⟩;refine⟨[],[some 0],_,_,_,_,fN,t3,cw ?_⟩;refine⟨[],[some 5],_,_,_,_,gq,t3,cw ?_⟩;refine sp ?_ ?_<;>intro wo;rotate_left
     ·exact absurd h3 wo
     refine wh ?_;refine⟨[],[some 0],_,_,_,_,gI,t3,cw ?_⟩;refine sp ?_ ?_<;>intro eC
     ·have eC:0<l.length:=by have q:(((l.map b6).length:Nat):Int)>0:=eC
                             rw[List.length_map]at q;omega
      refine wh ?_;cases jt with
      |true=>
       rw[if_pos ⟨eC,rfl⟩];refine wh ?_;refine⟨[],[some 0],_,_,_,_,bk,t3,cw ?_⟩;exact⟨[],[some 0],_,_,_,t3,rfl,rfl,rfl⟩
      |false=>
       rw[if_neg (fun q=>Bool.noConfusion q.2)];refine wh ?_;exact⟨[],[some 0],_,_,_,t3,rfl,rfl,rfl⟩
     ·have eC:¬0<l.length:=fun q=>eC (by show(((l.map b6).length:Nat):Int)>0;rw[List.length_map];omega);rw[if_neg (fun q=>eC q.1)];refine wh ?_;exact⟨[],[some 0],_,_,_,t3,rfl,rfl,rfl⟩
    ·have e3:Dy x d us=oC x us:=if_neg (fun q=>h3 q.2.2);rw[e3,e2]at gI bk;rw[e3,e2];rw[e2]at gq h3;generalize ic (cO (fO x us) (aO (fO x us).ar))=w at gI bk ⊢;obtain⟨Bm,Bn,Bo,YT,Mb,Bp,Mc,Md,jt,Bq,uR,Me⟩:=w;clear tf G1 G2 G3 e2 e3 hy fF nG Fu;generalize fO x us=y at qj lS fN gI bk qk gq h3 ⊢;have jX:=qj.role;have kp:=qj.ao;rw[←jX]at hj ht;rw[←kp]at hf;clear qj jX kp;obtain⟨iT,⟨zX,zY,zZ,Mf,z5⟩,⟨yi,yj,yh,yt,yw,wM,wN,wO⟩,Bj,kE,iU,oh,oi,fu,iV,fv,mA⟩:=y;have hj:yj=false:=hj;have hf:Mf=true:=hf;have ht:yt=true:=ht;subst hj hf ht
     generalize cO ⟨iT,⟨zX,zY,zZ,true,z5⟩,⟨yi,false,yh,true,yw,wM,wN,wO⟩,Bj,kE,iU,oh,oi,fu,iV,fv,mA⟩ (aO (⟨iT,⟨zX,zY,zZ,true,z5⟩,⟨yi,false,yh,true,yw,wM,wN,wO⟩,Bj,kE,iU,oh,oi,fu,iV,fv,mA⟩:RS).ar)=z at fN gI bk qk gq h3 ⊢;have pX:=qk.role;have tT:=qk.ao;clear qk;obtain⟨Br,pO,pP,YU,Mg,Bs,Mh,Mi,uS,Bt,uT,Mj⟩:=z;have pX:pP=⟨yi,false,yh,true,yw,wM,wN,wO⟩:=pX;have tT:pO=⟨zX,zY,zZ,true,z5⟩:=tT;subst pX tT;refine wh ?_;refine⟨[],[some 2],_,_,_,_,lS,t3,cw ?_⟩;refine⟨[],[some 0],_,_,_,_,fN,t3,cw ?_⟩;refine⟨[],[some 5],_,_,_,_,gq,t3,cw ?_⟩;refine sp ?_ ?_<;>intro wo
     ·exact absurd wo h3
     refine wh ?_;refine⟨[],[some 0],_,_,_,_,gI,t3,cw ?_⟩;refine sp ?_ ?_<;>intro eC
     ·have eC:0<l.length:=by have q:(((l.map b6).length:Nat):Int)>0:=eC
                             rw[List.length_map]at q;omega
      refine wh ?_;cases jt with
      |true=>
       rw[if_pos ⟨eC,rfl⟩];refine wh ?_;refine⟨[],[some 0],_,_,_,_,bk,t3,cw ?_⟩;exact⟨[],[some 0],_,_,_,t3,rfl,rfl,rfl⟩
      |false=>
       rw[if_neg (fun q=>Bool.noConfusion q.2)];refine wh ?_;exact⟨[],[some 0],_,_,_,t3,rfl,rfl,rfl⟩
     ·have eC:¬0<l.length:=fun q=>eC (by show(((l.map b6).length:Nat):Int)>0;rw[List.length_map];omega);rw[if_neg (fun q=>eC q.1)];refine wh ?_;exact⟨[],[some 0],_,_,_,t3,rfl,rfl,rfl⟩
  |false=>
   have e3:Dy x d us=oC x us:=if_neg (fun q=>by rw[ht]at q;exact Bool.noConfusion q.1);cases hj:x.role.lP with
   |true=>
    have e2:oC x us=cO (fO x us) (aO (fO x us).ar):=by
     show(if x.role.tail=true∨x.role.lP=true then cO (fO x us) (aO (fO x us).ar)else fO x us)=_;rw[hj];exact if_pos (.inr rfl)
    rw[e3,e2]at gI bk;rw[e3,e2];clear gq;cases hf:x.ao.fresh with
    |false=>
     generalize ic (cO (fO x us) (aO (fO x us).ar))=w at gI bk ⊢;obtain⟨Bm,Bn,Bo,YT,Mb,Bp,Mc,Md,jt,Bq,uR,Me⟩:=w;clear tf G1 G2 G3 e2 e3 hy fF nG Fu;generalize fO x us=y at qj lS fN gI bk qk ⊢;have jX:=qj.role;have kp:=qj.ao;rw[←jX]at hj ht;rw[←kp]at hf;clear qj jX kp;obtain⟨iT,⟨zX,zY,zZ,Mf,z5⟩,⟨yi,yj,yh,yt,yw,wM,wN,wO⟩,Bj,kE,iU,oh,oi,fu,iV,fv,mA⟩:=y;have hj:yj=true:=hj;have hf:Mf=false:=hf;have ht:yt=false:=ht;subst hj hf ht
     generalize cO ⟨iT,⟨zX,zY,zZ,false,z5⟩,⟨yi,true,yh,false,yw,wM,wN,wO⟩,Bj,kE,iU,oh,oi,fu,iV,fv,mA⟩ (aO (⟨iT,⟨zX,zY,zZ,false,z5⟩,⟨yi,true,yh,false,yw,wM,wN,wO⟩,Bj,kE,iU,oh,oi,fu,iV,fv,mA⟩:RS).ar)=z at fN gI bk qk ⊢;have pX:=qk.role;have tT:=qk.ao;clear qk;obtain⟨Br,pO,pP,YU,Mg,Bs,Mh,Mi,uS,Bt,uT,Mj⟩:=z;have pX:pP=⟨yi,true,yh,false,yw,wM,wN,wO⟩:=pX;have tT:pO=⟨zX,zY,zZ,false,z5⟩:=tT;subst pX tT;refine wh ?_;refine⟨[],[some 2],_,_,_,_,lS,t3,cw ?_⟩;refine⟨[],[some 0],_,_,_,_,fN,t3,cw ?_⟩;refine⟨[],[some 0],_,_,_,_,gI,t3,cw ?_⟩;refine sp ?_ ?_<;>intro eC
     ·have eC:0<l.length:=by have q:(((l.map b6).length:Nat):Int)>0:=eC
                             rw[List.length_map]at q;omega
      refine wh ?_;cases jt with
      |true=>
       rw[if_pos ⟨eC,rfl⟩];refine wh ?_;refine⟨[],[some 0],_,_,_,_,bk,t3,cw ?_⟩;exact⟨[],[some 0],_,_,_,t3,rfl,rfl,rfl⟩
      |false=>
       rw[if_neg (fun q=>Bool.noConfusion q.2)];refine wh ?_;exact⟨[],[some 0],_,_,_,t3,rfl,rfl,rfl⟩
     ·have eC:¬0<l.length:=fun q=>eC (by show(((l.map b6).length:Nat):Int)>0;rw[List.length_map];omega);rw[if_neg (fun q=>eC q.1)];refine wh ?_;exact⟨[],[some 0],_,_,_,t3,rfl,rfl,rfl⟩
    |true=>
     generalize ic (cO (fO x us) (aO (fO x us).ar))=w at gI bk ⊢;obtain⟨Bm,Bn,Bo,YT,Mb,Bp,Mc,Md,jt,Bq,uR,Me⟩:=w;clear tf G1 G2 G3 e2 e3 hy fF nG Fu;generalize fO x us=y at qj lS fN gI bk qk ⊢;have jX:=qj.role;have kp:=qj.ao;rw[←jX]at hj ht;rw[←kp]at hf;clear qj jX kp;obtain⟨iT,⟨zX,zY,zZ,Mf,z5⟩,⟨yi,yj,yh,yt,yw,wM,wN,wO⟩,Bj,kE,iU,oh,oi,fu,iV,fv,mA⟩:=y;have hj:yj=true:=hj;have hf:Mf=true:=hf;have ht:yt=false:=ht;subst hj hf ht
     generalize cO ⟨iT,⟨zX,zY,zZ,true,z5⟩,⟨yi,true,yh,false,yw,wM,wN,wO⟩,Bj,kE,iU,oh,oi,fu,iV,fv,mA⟩ (aO (⟨iT,⟨zX,zY,zZ,true,z5⟩,⟨yi,true,yh,false,yw,wM,wN,wO⟩,Bj,kE,iU,oh,oi,fu,iV,fv,mA⟩:RS).ar)=z at fN gI bk qk ⊢;have pX:=qk.role;have tT:=qk.ao;clear qk;obtain⟨Br,pO,pP,YU,Mg,Bs,Mh,Mi,uS,Bt,uT,Mj⟩:=z;have pX:pP=⟨yi,true,yh,false,yw,wM,wN,wO⟩:=pX;have tT:pO=⟨zX,zY,zZ,true,z5⟩:=tT;subst pX tT;refine wh ?_;refine⟨[],[some 2],_,_,_,_,lS,t3,cw ?_⟩;refine⟨[],[some 0],_,_,_,_,fN,t3,cw ?_⟩;refine⟨[],[some 0],_,_,_,_,gI,t3,cw ?_⟩;refine sp ?_ ?_<;>intro eC
     ·have eC:0<l.length:=by have q:(((l.map b6).length:Nat):Int)>0:=eC
                             rw[List.length_map]at q;omega
      refine wh ?_;cases jt with
      |true=>
       rw[if_pos ⟨eC,rfl⟩];refine wh ?_;refine⟨[],[some 0],_,_,_,_,bk,t3,cw ?_⟩;exact⟨[],[some 0],_,_,_,t3,rfl,rfl,rfl⟩
      |false=>
       rw[if_neg (fun q=>Bool.noConfusion q.2)];refine wh ?_;exact⟨[],[some 0],_,_,_,t3,rfl,rfl,rfl⟩
     ·have eC:¬0<l.length:=fun q=>eC (by show(((l.map b6).length:Nat):Int)>0;rw[List.length_map];omega);rw[if_neg (fun q=>eC q.1)];refine wh ?_;exact⟨[],[some 0],_,_,_,t3,rfl,rfl,rfl⟩
   |false=>
    have e2:oC x us=fO x us:=by
     show(if x.role.tail=true∨x.role.lP=true then cO (fO x us) (aO (fO x us).ar)else fO x us)=_;rw[ht,hj];exact if_neg (fun q=>by rcases q with q|q<;>cases q)
    rw[e3,e2]at gI bk;rw[e3,e2];clear gq;cases hf:x.ao.fresh with
    |false=>
     generalize ic (fO x us)=w at gI bk ⊢;obtain⟨Bm,Bn,Bo,YT,Mb,Bp,Mc,Md,jt,Bq,uR,Me⟩:=w;clear tf G1 G2 G3 e2 e3 hy fF nG Fu;generalize fO x us=y at qj lS fN gI bk qk ⊢;have jX:=qj.role;have kp:=qj.ao;rw[←jX]at hj ht;rw[←kp]at hf;clear qj jX kp;obtain⟨iT,⟨zX,zY,zZ,Mf,z5⟩,⟨yi,yj,yh,yt,yw,wM,wN,wO⟩,Bj,kE,iU,oh,oi,fu,iV,fv,mA⟩:=y;have hj:yj=false:=hj;have hf:Mf=false:=hf;have ht:yt=false:=ht;subst hj hf ht;refine wh ?_;refine⟨[],[some 0],_,_,_,_,gI,t3,cw ?_⟩;refine sp ?_ ?_<;>intro eC
     ·have eC:0<l.length:=by have q:(((l.map b6).length:Nat):Int)>0:=eC
                             rw[List.length_map]at q;omega
      refine wh ?_;cases jt with
      |true=>
       rw[if_pos ⟨eC,rfl⟩];refine wh ?_;refine⟨[],[some 0],_,_,_,_,bk,t3,cw ?_⟩;exact⟨[],[some 0],_,_,_,t3,rfl,rfl,rfl⟩
      |false=>
       rw[if_neg (fun q=>Bool.noConfusion q.2)];refine wh ?_;exact⟨[],[some 0],_,_,_,t3,rfl,rfl,rfl⟩
     ·have eC:¬0<l.length:=fun q=>eC (by show(((l.map b6).length:Nat):Int)>0;rw[List.length_map];omega);rw[if_neg (fun q=>eC q.1)];refine wh ?_;exact⟨[],[some 0],_,_,_,t3,rfl,rfl,rfl⟩
    |true=>
     generalize ic (fO x us)=w at gI bk ⊢;obtain⟨Bm,Bn,Bo,YT,Mb,Bp,Mc,Md,jt,Bq,uR,Me⟩:=w;clear tf G1 G2 G3 e2 e3 hy fF nG Fu;generalize fO x us=y at qj lS fN gI bk qk ⊢;have jX:=qj.role;have kp:=qj.ao;rw[←jX]at hj ht;rw[←kp]at hf;clear qj jX kp;obtain⟨iT,⟨zX,zY,zZ,Mf,z5⟩,⟨yi,yj,yh,yt,yw,wM,wN,wO⟩,Bj,kE,iU,oh,oi,fu,iV,fv,mA⟩:=y;have hj:yj=false:=hj;have hf:Mf=true:=hf;have ht:yt=false:=ht;subst hj hf ht;refine wh ?_;refine⟨[],[some 0],_,_,_,_,gI,t3,cw ?_⟩;refine sp ?_ ?_<;>intro eC
     ·have eC:0<l.length:=by have q:(((l.map b6).length:Nat):Int)>0:=eC
                             rw[List.length_map]at q;omega
      refine wh ?_;cases jt with
      |true=>
       rw[if_pos ⟨eC,rfl⟩];refine wh ?_;refine⟨[],[some 0],_,_,_,_,bk,t3,cw ?_⟩;exact⟨[],[some 0],_,_,_,t3,rfl,rfl,rfl⟩
      |false=>
       rw[if_neg (fun q=>Bool.noConfusion q.2)];refine wh ?_;exact⟨[],[some 0],_,_,_,t3,rfl,rfl,rfl⟩
     ·have eC:¬0<l.length:=fun q=>eC (by show(((l.map b6).length:Nat):Int)>0;rw[List.length_map];omega);rw[if_neg (fun q=>eC q.1)];refine wh ?_;exact⟨[],[some 0],_,_,_,t3,rfl,rfl,rfl⟩
@[reducible] def Dz (x:RS) (s:Int):RS:={x with bo:=max x.bo s,known:=true}
@[reducible] def v9 (x:RS) (s d:Int):RS:=if x.role.succ∈x.ao.nodes then cO (Dz x s) d else Dz x s
theorem Bu {x:RS} {s d:Int} (hh:(je x.ar (max x.bo s) 0).isSome=true):la x s d=(if(x.bo<(v9 x s d).bo∧(v9 x s d).bo<aO (v9 x s d).ar)∨x.known=false then cF (v9 x s d)else v9 x s d):=by
 show(if x.bo<(v9 x s d).bo∧(v9 x s d).bo<aO (v9 x s d).ar∨(je x.ar (max x.bo s) 0).isSome=false∨x.known=false then cF (v9 x s d)else v9 x s d)=_;rw[hh]
 congr 1
 simp
theorem P7 (x:RS) (f t ch e n s d sl:Int) (hn:x.ao.nodes.length<1000000) (H:tC x.ar) (G1:fB (Dz x s)) (hh:(je x.ar (max x.bo s) 0).isSome=true) (hd:0≤d∧d≤1000000) (G2:js (v9 x s d)):
 VC E0 47 1 [.ptr 0 0,.agg (aE (qo f t ch e n s d sl))] (gX x) (RR (.dF []) 1 (gX (la x s d))):=by
 rw[Bu hh];obtain⟨l,hl⟩:=Option.isSome_iff_exists.1 hh;have Aa:=JK x.ar H (max x.bo s) 0 (by decide) l hl;have r8:=kC x.ao.nodes x.role.succ hn;have fN:=G1.done d hd;have gq:=eO (v9 x s d).ar G2.ar;have bk:=G2.hand;have iH:=ir (Dz x s) d;have Gd:(if s>x.bo then s else x.bo)=max x.bo s:=by split<;>omega
 obtain⟨node,ao,role,st,ar,base,cU,bo,known,want,comes,out⟩:=x;cases known
 ·refine en L0 Tryz.f47 ?_;rw[show(if(qo f t ch e n s d sl).seq>(⟨node,ao,role,st,ar,base,cU,bo,false,want,comes,out⟩:RS).bo then(qo f t ch e n s d sl).seq else(⟨node,ao,role,st,ar,base,cU,bo,false,want,comes,out⟩:RS).bo)=max bo s from Gd];refine⟨[],[some 2],_,_,_,_,Aa,t3,cw ?_⟩;refine⟨[],[],_,_,_,_,r8,t3,cw ?_⟩;by_cases zz:role.succ∈ao.nodes
  ·have e2:v9 ⟨node,ao,role,st,ar,base,cU,bo,false,want,comes,out⟩ s d=cO (Dz ⟨node,ao,role,st,ar,base,cU,bo,false,want,comes,out⟩ s) d:=if_pos zz;rw[decide_eq_true zz];rw[e2]at gq bk ⊢;generalize cO (Dz ⟨node,ao,role,st,ar,base,cU,bo,false,want,comes,out⟩ s) d=z at fN gq bk iH ⊢;have hzg:z.bo=max bo s:=iH.bo;obtain⟨Br,pO,pP,YU,Mg,Bs,Mh,Mi,uS,Bt,uT,Mj⟩:=z;refine wh ?_;refine⟨[],[some 0],_,_,_,_,fN,t3,cw ?_⟩;refine sp ?_ ?_<;>intro eC
   ·refine wh ?_;refine⟨[],[some 5],_,_,_,_,gq,t3,cw ?_⟩;refine sp ?_ ?_<;>intro bH
    ·rw[if_pos (.inl ⟨eC,bH⟩)];refine wh ?_;refine⟨[],[some 0],_,_,_,_,bk,t3,cw ?_⟩;exact⟨[],[some 0],_,_,_,t3,rfl,rfl,rfl⟩
    ·rw[if_pos (.inr rfl)];refine wh ?_;refine⟨[],[some 0],_,_,_,_,bk,t3,cw ?_⟩;exact⟨[],[some 0],_,_,_,t3,rfl,rfl,rfl⟩
   ·rw[if_pos (.inr rfl)];refine wh ?_;refine⟨[],[some 0],_,_,_,_,bk,t3,cw ?_⟩;exact⟨[],[some 0],_,_,_,t3,rfl,rfl,rfl⟩
  ·have e2:v9 ⟨node,ao,role,st,ar,base,cU,bo,false,want,comes,out⟩ s d=Dz ⟨node,ao,role,st,ar,base,cU,bo,false,want,comes,out⟩ s:=if_neg zz;rw[decide_eq_false zz];rw[e2]at gq bk ⊢;refine wh ?_;refine sp ?_ ?_<;>intro eC
   ·refine wh ?_;refine⟨[],[some 2],_,_,_,_,gq,t3,cw ?_⟩;refine sp ?_ ?_<;>intro bH
    ·rw[if_pos (.inl ⟨eC,bH⟩)];refine wh ?_;refine⟨[],[some 0],_,_,_,_,bk,t3,cw ?_⟩;exact⟨[],[some 0],_,_,_,t3,rfl,rfl,rfl⟩
    ·rw[if_pos (.inr rfl)];refine wh ?_;refine⟨[],[some 0],_,_,_,_,bk,t3,cw ?_⟩;exact⟨[],[some 0],_,_,_,t3,rfl,rfl,rfl⟩
   ·rw[if_pos (.inr rfl)];refine wh ?_;refine⟨[],[some 0],_,_,_,_,bk,t3,cw ?_⟩;exact⟨[],[some 0],_,_,_,t3,rfl,rfl,rfl⟩
 ·refine en L0 Tryz.f47 ?_;rw[show(if(qo f t ch e n s d sl).seq>(⟨node,ao,role,st,ar,base,cU,bo,true,want,comes,out⟩:RS).bo then(qo f t ch e n s d sl).seq else(⟨node,ao,role,st,ar,base,cU,bo,true,want,comes,out⟩:RS).bo)=max bo s from Gd];refine⟨[],[some 2],_,_,_,_,Aa,t3,cw ?_⟩;refine⟨[],[],_,_,_,_,r8,t3,cw ?_⟩;by_cases zz:role.succ∈ao.nodes
  ·have e2:v9 ⟨node,ao,role,st,ar,base,cU,bo,true,want,comes,out⟩ s d=cO (Dz ⟨node,ao,role,st,ar,base,cU,bo,true,want,comes,out⟩ s) d:=if_pos zz;rw[decide_eq_true zz];rw[e2]at gq bk ⊢;generalize cO (Dz ⟨node,ao,role,st,ar,base,cU,bo,true,want,comes,out⟩ s) d=z at fN gq bk iH ⊢;have hzg:z.bo=max bo s:=iH.bo;obtain⟨Br,pO,pP,YU,Mg,Bs,Mh,Mi,uS,Bt,uT,Mj⟩:=z;refine wh ?_;refine⟨[],[some 0],_,_,_,_,fN,t3,cw ?_⟩;refine sp ?_ ?_<;>intro eC
   ·refine wh ?_;refine⟨[],[some 5],_,_,_,_,gq,t3,cw ?_⟩;refine sp ?_ ?_<;>intro bH
    ·rw[if_pos (.inl ⟨eC,bH⟩)];refine wh ?_;refine⟨[],[some 0],_,_,_,_,bk,t3,cw ?_⟩;exact⟨[],[some 0],_,_,_,t3,rfl,rfl,rfl⟩
    ·rw[if_neg (fun q=>by rcases q with q|q;exact(fun q=>bH q.2) q;exact Bool.noConfusion q)];refine wh ?_;exact⟨[],[some 0],_,_,_,t3,rfl,rfl,rfl⟩
   ·rw[if_neg (fun q=>by rcases q with q|q;exact(fun q=>eC q.1) q;exact Bool.noConfusion q)];refine wh ?_;exact⟨[],[some 0],_,_,_,t3,rfl,rfl,rfl⟩
  ·have e2:v9 ⟨node,ao,role,st,ar,base,cU,bo,true,want,comes,out⟩ s d=Dz ⟨node,ao,role,st,ar,base,cU,bo,true,want,comes,out⟩ s:=if_neg zz;rw[decide_eq_false zz];rw[e2]at gq bk ⊢;refine wh ?_;refine sp ?_ ?_<;>intro eC
   ·refine wh ?_;refine⟨[],[some 2],_,_,_,_,gq,t3,cw ?_⟩;refine sp ?_ ?_<;>intro bH
    ·rw[if_pos (.inl ⟨eC,bH⟩)];refine wh ?_;refine⟨[],[some 0],_,_,_,_,bk,t3,cw ?_⟩;exact⟨[],[some 0],_,_,_,t3,rfl,rfl,rfl⟩
    ·rw[if_neg (fun q=>by rcases q with q|q;exact(fun q=>bH q.2) q;exact Bool.noConfusion q)];refine wh ?_;exact⟨[],[some 0],_,_,_,t3,rfl,rfl,rfl⟩
   ·rw[if_neg (fun q=>by rcases q with q|q;exact(fun q=>eC q.1) q;exact Bool.noConfusion q)];refine wh ?_;exact⟨[],[some 0],_,_,_,t3,rfl,rfl,rfl⟩
@[reducible] def JP (x:RS):TV→Ob→Nat→Prop:=fun r o c=>
 (x.role.succ=0∧r= .sl 0 [] true∧c=1∧o=gX x)∨(x.role.succ≠0∧r= .tk 1∧c=2∧o=[(0,lq (bG (aV x))),(1,.arr 25 true ((aV x).out.map aE))])
theorem Tk (x:RS) (hn:x.ao.nodes.length<1000000) (H:tC x.ar) (Bf:x.ar.done≤aO x.ar) (G2:js x):VC E0 22 1 [.ptr 0 0] (gX x) (JP x):=by
 have r8:=kC x.ao.nodes x.role.succ hn;have fF:=eO x.ar H;have U7:=Bg x.ar H Bf;have bk:=G2.hand;by_cases hs:x.role.succ=0
 ·refine en L0 Tryz.f22 ?_;refine sp ?_ ?_<;>intro hz
  ·refine wh ?_;exact⟨[],[some 0],_,_,_,t3,.inl ⟨hs,rfl,rfl,rfl⟩⟩
  ·exact absurd hs hz
 generalize hX:x=X at r8 fF U7 bk hs ⊢;obtain⟨node,⟨c1,c2,c3,c4,c5⟩,role,st,ar,base,cU,bo,known,want,comes,out⟩:=X;clear G2 H Bf hX;cases c4
 ·cases known
  ·refine en L0 Tryz.f22 ?_;refine sp ?_ ?_<;>intro hz
   ·exact absurd hz hs
   refine wh ?_;refine⟨[],[],_,_,_,_,r8,t3,cw ?_⟩;have et:aV ⟨node,⟨c1,c2,c3,(false),c5⟩,role,st,ar,base,cU,bo,false,want,comes,out⟩=cF ⟨node,⟨c1,c2,c3,(false),c5⟩,role,st,ar,base,cU,bo,false,want,comes,out⟩:=by unfold aV;rw[if_neg hs,if_pos (.inl rfl)]
   refine wh ?_;refine⟨[],[some 0],_,_,_,_,bk,t3,cw ?_⟩;refine⟨[],[some 0],_,_,_,_,dH (cF ⟨node,⟨c1,c2,c3,(false),c5⟩,role,st,ar,base,cU,bo,false,want,comes,out⟩),t3,cw ?_⟩;exact⟨[],[some 0,some 3],_,_,_,t3,.inr ⟨hs,rfl,rfl,(congrArg (fun y=>[(0,lq (bG y)),(1,.arr 25 true (y.out.map aE))]) et).symm⟩⟩
  ·by_cases zz:role.succ∈c3
   ·rw[decide_eq_true zz]at r8;refine en L0 Tryz.f22 ?_;refine sp ?_ ?_<;>intro hz
    ·exact absurd hz hs
    refine wh ?_;refine⟨[],[],_,_,_,_,r8,t3,cw ?_⟩;refine⟨[],[some 1],_,_,_,_,fF,t3,cw ?_⟩;refine sp ?_ ?_<;>intro bH
    ·have et:aV ⟨node,⟨c1,c2,c3,(false),c5⟩,role,st,ar,base,cU,bo,true,want,comes,out⟩=cF ⟨node,⟨c1,c2,c3,(false),c5⟩,role,st,ar,base,cU,bo,true,want,comes,out⟩:=by unfold aV;rw[if_neg hs,if_pos (.inr (.inl bH))]
     refine wh ?_;refine⟨[],[some 0],_,_,_,_,bk,t3,cw ?_⟩;refine⟨[],[some 0],_,_,_,_,dH (cF ⟨node,⟨c1,c2,c3,(false),c5⟩,role,st,ar,base,cU,bo,true,want,comes,out⟩),t3,cw ?_⟩;exact⟨[],[some 0,some 5],_,_,_,t3,.inr ⟨hs,rfl,rfl,(congrArg (fun y=>[(0,lq (bG y)),(1,.arr 25 true (y.out.map aE))]) et).symm⟩⟩
    ·refine wh ?_;refine⟨[],[some 1],_,_,_,_,U7,t3,cw ?_⟩;refine sp ?_ ?_<;>intro hd
     ·have et:aV ⟨node,⟨c1,c2,c3,(false),c5⟩,role,st,ar,base,cU,bo,true,want,comes,out⟩=cF ⟨node,⟨c1,c2,c3,(false),c5⟩,role,st,ar,base,cU,bo,true,want,comes,out⟩:=by unfold aV;rw[if_neg hs,if_pos (.inr (.inr ⟨zz,.inl hd⟩))]
      refine wh ?_;refine⟨[],[some 0],_,_,_,_,bk,t3,cw ?_⟩;refine⟨[],[some 0],_,_,_,_,dH (cF ⟨node,⟨c1,c2,c3,(false),c5⟩,role,st,ar,base,cU,bo,true,want,comes,out⟩),t3,cw ?_⟩;exact⟨[],[some 0,some 6],_,_,_,t3,.inr ⟨hs,rfl,rfl,(congrArg (fun y=>[(0,lq (bG y)),(1,.arr 25 true (y.out.map aE))]) et).symm⟩⟩
     ·have et:aV ⟨node,⟨c1,c2,c3,false,c5⟩,role,st,ar,base,cU,bo,true,want,comes,out⟩=⟨node,⟨c1,c2,c3,false,c5⟩,role,st,ar,base,cU,bo,true,want,comes,out⟩:=by unfold aV;rw[if_neg hs,if_neg (fun q=>by rcases q with q|q|⟨q0,q|q⟩;cases q;exact bH q;exact hd q;cases q)]
      refine wh ?_;refine⟨[],[some 0],_,_,_,_,dH ⟨node,⟨c1,c2,c3,false,c5⟩,role,st,ar,base,cU,bo,true,want,comes,out⟩,t3,cw ?_⟩;exact⟨[],[some 0,some 5],_,_,_,t3,.inr ⟨hs,rfl,rfl,(congrArg (fun y=>[(0,lq (bG y)),(1,.arr 25 true (y.out.map aE))]) et).symm⟩⟩
   ·rw[decide_eq_false zz]at r8;refine en L0 Tryz.f22 ?_;refine sp ?_ ?_<;>intro hz
    ·exact absurd hz hs
    refine wh ?_;refine⟨[],[],_,_,_,_,r8,t3,cw ?_⟩;refine⟨[],[some 1],_,_,_,_,fF,t3,cw ?_⟩;refine sp ?_ ?_<;>intro bH
    ·have et:aV ⟨node,⟨c1,c2,c3,(false),c5⟩,role,st,ar,base,cU,bo,true,want,comes,out⟩=cF ⟨node,⟨c1,c2,c3,(false),c5⟩,role,st,ar,base,cU,bo,true,want,comes,out⟩:=by unfold aV;rw[if_neg hs,if_pos (.inr (.inl bH))]
     refine wh ?_;refine⟨[],[some 0],_,_,_,_,bk,t3,cw ?_⟩;refine⟨[],[some 0],_,_,_,_,dH (cF ⟨node,⟨c1,c2,c3,(false),c5⟩,role,st,ar,base,cU,bo,true,want,comes,out⟩),t3,cw ?_⟩;exact⟨[],[some 0,some 5],_,_,_,t3,.inr ⟨hs,rfl,rfl,(congrArg (fun y=>[(0,lq (bG y)),(1,.arr 25 true (y.out.map aE))]) et).symm⟩⟩
    ·have et:aV ⟨node,⟨c1,c2,c3,(false),c5⟩,role,st,ar,base,cU,bo,true,want,comes,out⟩=⟨node,⟨c1,c2,c3,(false),c5⟩,role,st,ar,base,cU,bo,true,want,comes,out⟩:=by unfold aV;rw[if_neg hs,if_neg (fun q=>by rcases q with q|q|q;cases q;exact bH q;exact zz q.1)]
     refine wh ?_;refine⟨[],[some 0],_,_,_,_,dH ⟨node,⟨c1,c2,c3,(false),c5⟩,role,st,ar,base,cU,bo,true,want,comes,out⟩,t3,cw ?_⟩;exact⟨[],[some 0,some 4],_,_,_,t3,.inr ⟨hs,rfl,rfl,(congrArg (fun y=>[(0,lq (bG y)),(1,.arr 25 true (y.out.map aE))]) et).symm⟩⟩
 ·cases known
  ·refine en L0 Tryz.f22 ?_;refine sp ?_ ?_<;>intro hz
   ·exact absurd hz hs
   refine wh ?_;refine⟨[],[],_,_,_,_,r8,t3,cw ?_⟩;have et:aV ⟨node,⟨c1,c2,c3,(true),c5⟩,role,st,ar,base,cU,bo,false,want,comes,out⟩=cF ⟨node,⟨c1,c2,c3,(true),c5⟩,role,st,ar,base,cU,bo,false,want,comes,out⟩:=by unfold aV;rw[if_neg hs,if_pos (.inl rfl)]
   refine wh ?_;refine⟨[],[some 0],_,_,_,_,bk,t3,cw ?_⟩;refine⟨[],[some 0],_,_,_,_,dH (cF ⟨node,⟨c1,c2,c3,(true),c5⟩,role,st,ar,base,cU,bo,false,want,comes,out⟩),t3,cw ?_⟩;exact⟨[],[some 0,some 3],_,_,_,t3,.inr ⟨hs,rfl,rfl,(congrArg (fun y=>[(0,lq (bG y)),(1,.arr 25 true (y.out.map aE))]) et).symm⟩⟩
  ·by_cases zz:role.succ∈c3
   ·rw[decide_eq_true zz]at r8;refine en L0 Tryz.f22 ?_;refine sp ?_ ?_<;>intro hz
    ·exact absurd hz hs
    refine wh ?_;refine⟨[],[],_,_,_,_,r8,t3,cw ?_⟩;refine⟨[],[some 1],_,_,_,_,fF,t3,cw ?_⟩;refine sp ?_ ?_<;>intro bH
    ·have et:aV ⟨node,⟨c1,c2,c3,(true),c5⟩,role,st,ar,base,cU,bo,true,want,comes,out⟩=cF ⟨node,⟨c1,c2,c3,(true),c5⟩,role,st,ar,base,cU,bo,true,want,comes,out⟩:=by unfold aV;rw[if_neg hs,if_pos (.inr (.inl bH))]
     refine wh ?_;refine⟨[],[some 0],_,_,_,_,bk,t3,cw ?_⟩;refine⟨[],[some 0],_,_,_,_,dH (cF ⟨node,⟨c1,c2,c3,(true),c5⟩,role,st,ar,base,cU,bo,true,want,comes,out⟩),t3,cw ?_⟩;exact⟨[],[some 0,some 5],_,_,_,t3,.inr ⟨hs,rfl,rfl,(congrArg (fun y=>[(0,lq (bG y)),(1,.arr 25 true (y.out.map aE))]) et).symm⟩⟩
    ·refine wh ?_;refine⟨[],[some 1],_,_,_,_,U7,t3,cw ?_⟩;refine sp ?_ ?_<;>intro hd
     ·have et:aV ⟨node,⟨c1,c2,c3,(true),c5⟩,role,st,ar,base,cU,bo,true,want,comes,out⟩=cF ⟨node,⟨c1,c2,c3,(true),c5⟩,role,st,ar,base,cU,bo,true,want,comes,out⟩:=by unfold aV;rw[if_neg hs,if_pos (.inr (.inr ⟨zz,.inl hd⟩))]
      refine wh ?_;refine⟨[],[some 0],_,_,_,_,bk,t3,cw ?_⟩;refine⟨[],[some 0],_,_,_,_,dH (cF ⟨node,⟨c1,c2,c3,(true),c5⟩,role,st,ar,base,cU,bo,true,want,comes,out⟩),t3,cw ?_⟩;exact⟨[],[some 0,some 6],_,_,_,t3,.inr ⟨hs,rfl,rfl,(congrArg (fun y=>[(0,lq (bG y)),(1,.arr 25 true (y.out.map aE))]) et).symm⟩⟩
     ·have et:aV ⟨node,⟨c1,c2,c3,true,c5⟩,role,st,ar,base,cU,bo,true,want,comes,out⟩=cF ⟨node,⟨c1,c2,c3,true,c5⟩,role,st,ar,base,cU,bo,true,want,comes,out⟩:=by unfold aV;rw[if_neg hs,if_pos (.inr (.inr ⟨zz,.inr rfl⟩))]
      refine wh ?_;refine⟨[],[some 0],_,_,_,_,bk,t3,cw ?_⟩;refine⟨[],[some 0],_,_,_,_,dH (cF ⟨node,⟨c1,c2,c3,true,c5⟩,role,st,ar,base,cU,bo,true,want,comes,out⟩),t3,cw ?_⟩;exact⟨[],[some 0,some 6],_,_,_,t3,.inr ⟨hs,rfl,rfl,(congrArg (fun y=>[(0,lq (bG y)),(1,.arr 25 true (y.out.map aE))]) et).symm⟩⟩
   ·rw[decide_eq_false zz]at r8;refine en L0 Tryz.f22 ?_;refine sp ?_ ?_<;>intro hz
    ·exact absurd hz hs
    refine wh ?_;refine⟨[],[],_,_,_,_,r8,t3,cw ?_⟩;refine⟨[],[some 1],_,_,_,_,fF,t3,cw ?_⟩;refine sp ?_ ?_<;>intro bH
    ·have et:aV ⟨node,⟨c1,c2,c3,(true),c5⟩,role,st,ar,base,cU,bo,true,want,comes,out⟩=cF ⟨node,⟨c1,c2,c3,(true),c5⟩,role,st,ar,base,cU,bo,true,want,comes,out⟩:=by unfold aV;rw[if_neg hs,if_pos (.inr (.inl bH))]
     refine wh ?_;refine⟨[],[some 0],_,_,_,_,bk,t3,cw ?_⟩;refine⟨[],[some 0],_,_,_,_,dH (cF ⟨node,⟨c1,c2,c3,(true),c5⟩,role,st,ar,base,cU,bo,true,want,comes,out⟩),t3,cw ?_⟩;exact⟨[],[some 0,some 5],_,_,_,t3,.inr ⟨hs,rfl,rfl,(congrArg (fun y=>[(0,lq (bG y)),(1,.arr 25 true (y.out.map aE))]) et).symm⟩⟩
    ·have et:aV ⟨node,⟨c1,c2,c3,(true),c5⟩,role,st,ar,base,cU,bo,true,want,comes,out⟩=⟨node,⟨c1,c2,c3,(true),c5⟩,role,st,ar,base,cU,bo,true,want,comes,out⟩:=by unfold aV;rw[if_neg hs,if_neg (fun q=>by rcases q with q|q|q;cases q;exact bH q;exact zz q.1)]
     refine wh ?_;refine⟨[],[some 0],_,_,_,_,dH ⟨node,⟨c1,c2,c3,(true),c5⟩,role,st,ar,base,cU,bo,true,want,comes,out⟩,t3,cw ?_⟩;exact⟨[],[some 0,some 4],_,_,_,t3,.inr ⟨hs,rfl,rfl,(congrArg (fun y=>[(0,lq (bG y)),(1,.arr 25 true (y.out.map aE))]) et).symm⟩⟩
theorem m9 (k:Int) (h:k=12∨k=13∨k=17∨k=14):VC E0 100 0 [.s (.int .i64 k)] [] (RR (.s (.bool true)) 0 []):=by
 rcases h with rfl |rfl |rfl |rfl
 all_goals
  refine en L0 Tryz.f100 ?_;refine rn ?_;exact⟨[],[],_,_,_,t3,rfl,rfl,rfl⟩
theorem Xz (c:CF) (H:bp c) (node:Int) (f t ch e s d:Int) (us:List bd) (h:(aD c node).pred≠0∧f=(aD c node).pred):VC E0 101 0 [.agg (b9 c),.s (.int .i64 node),.agg (aE (r7 f t ch e s d us))] [] (RR (.s (.bool true)) 0 []):=by
 have hr:=fC c H node;generalize aD c node=r at h hr;obtain⟨ri,rj,rh,rt,JN,M5,L9,JO⟩:=r;refine en L0 Tryz.f101 ?_;refine⟨[],[],_,_,_,_,hr,t3,cw ?_⟩;refine rn ?_;refine sp ?_ ?_<;>intro h1
 ·refine wh ?_;refine sp ?_ ?_<;>intro h2
  ·refine wh ?_;exact⟨[],[],_,_,_,t3,rfl,rfl,rfl⟩
  ·exact absurd h.2 h2
 ·exact absurd h.1 h1
theorem XA (c:CF) (H:bp c) (node:Int) (f t ch e n s d sl:Int) (h:(aD c node).succ≠0∧f=(aD c node).succ):VC E0 101 0 [.agg (b9 c),.s (.int .i64 node),.agg (aE (qo f t ch e n s d sl))] [] (RR (.s (.bool true)) 0 []):=by
 have hr:=fC c H node;generalize aD c node=r at h hr;obtain⟨ri,rj,rh,rt,JN,M5,L9,JO⟩:=r;refine en L0 Tryz.f101 ?_;refine⟨[],[],_,_,_,_,hr,t3,cw ?_⟩;refine rn ?_;refine sp ?_ ?_<;>intro h1
 ·refine wh ?_;refine sp ?_ ?_<;>intro h2
  ·refine wh ?_;exact⟨[],[],_,_,_,t3,rfl,rfl,rfl⟩
  ·exact absurd h.2 h2
 ·exact absurd h.1 h1
theorem XB (c:CF) (H:bp c) (node:Int) (f t ch e:Int) (us:List bd) (h:(aD c node).head=true) (hf:201≤f∧f≤206):VC E0 101 0 [.agg (b9 c),.s (.int .i64 node),.agg (aE (wJ f t ch e us))] [] (RR (.s (.bool true)) 0 []):=by
 have hc:=uO f;rw[decide_eq_true hf]at hc;have hr:=fC c H node;generalize aD c node=r at h hr;obtain⟨ri,rj,rh,rt,JN,M5,L9,JO⟩:=r;refine en L0 Tryz.f101 ?_;refine⟨[],[],_,_,_,_,hr,t3,cw ?_⟩;refine rn ?_;have h:rh=true:=h;subst h;refine wh ?_;refine⟨[],[],_,_,_,_,hc,t3,cw ?_⟩;exact⟨[],[],_,_,_,t3,rfl,rfl,rfl⟩
theorem Tl (c:CF) (H:bp c) (node f s d:Int) (us:List bd) (hf:iB f) (hn:iB node) (hl:us.length≤4) (hu:us.all (okW false)=true) (h:(aD c node).pred≠0∧f=(aD c node).pred):
 VC E0 42 0 [.agg (b9 c),.s (.int .i64 node),.agg (aE (r7 f node c.chain c.aJ s d us))] [] (RR (.s (.int .i64 0)) 0 []):=by
 have kr:=qp f node c.chain c.aJ s d us hf hn H.1 H.2.1 hl;rw[if_pos hu]at kr;have hs:=Xz c H node f node c.chain c.aJ s d us h;refine en L0 Tryz.f42 ?_;refine⟨[],[],_,_,_,_,kr,t3,cw ?_⟩
 repeat((first|(refine⟨fun h_=>?_,fun h_=>?_⟩)|(refine aA (fun h_=>?_) (fun h_=>?_))|(refine az (fun h_=>?_) (fun h_=>?_)))<;>first|(exfalso;revert h_;decide;done)|(exact absurd rfl h_)|(have bq:=True.intro;clear bq;(conv=>whnf)))
 refine⟨[],[],_,_,_,_,lh c H,t3,cw ?_⟩;refine⟨[],[],_,_,_,_,m9 12 (.inl rfl),t3,cw ?_⟩
 repeat((first|(refine⟨fun h_=>?_,fun h_=>?_⟩)|(refine aA (fun h_=>?_) (fun h_=>?_))|(refine az (fun h_=>?_) (fun h_=>?_)))<;>first|(exfalso;revert h_;decide;done)|(exact absurd rfl h_)|(have bq:=True.intro;clear bq;(conv=>whnf)))
 refine⟨[],[],_,_,_,_,hs,t3,cw ?_⟩;exact⟨[],[],_,_,_,t3,rfl,rfl,rfl⟩
theorem Tm (c:CF) (H:bp c) (node f n s d sl:Int) (hf:iB f) (hn:iB node) (DK:0≤sl∧sl≤512) (h:(aD c node).succ≠0∧f=(aD c node).succ):
 VC E0 42 0 [.agg (b9 c),.s (.int .i64 node),.agg (aE (qo f node c.chain c.aJ n s d sl))] [] (RR (.s (.int .i64 0)) 0 []):=by
 have kr:=yT f node c.chain c.aJ n s d sl hf hn H.1 H.2.1 DK;have hs:=XA c H node f node c.chain c.aJ n s d sl h;refine en L0 Tryz.f42 ?_;refine⟨[],[],_,_,_,_,kr,t3,cw ?_⟩
 repeat((first|(refine⟨fun h_=>?_,fun h_=>?_⟩)|(refine aA (fun h_=>?_) (fun h_=>?_))|(refine az (fun h_=>?_) (fun h_=>?_)))<;>first|(exfalso;revert h_;decide;done)|(exact absurd rfl h_)|(have bq:=True.intro;clear bq;(conv=>whnf)))
 refine⟨[],[],_,_,_,_,lh c H,t3,cw ?_⟩;refine⟨[],[],_,_,_,_,m9 13 (.inr (.inl rfl)),t3,cw ?_⟩
 repeat((first|(refine⟨fun h_=>?_,fun h_=>?_⟩)|(refine aA (fun h_=>?_) (fun h_=>?_))|(refine az (fun h_=>?_) (fun h_=>?_)))<;>first|(exfalso;revert h_;decide;done)|(exact absurd rfl h_)|(have bq:=True.intro;clear bq;(conv=>whnf)))
 refine⟨[],[],_,_,_,_,hs,t3,cw ?_⟩;exact⟨[],[],_,_,_,t3,rfl,rfl,rfl⟩
theorem JQ (c:CF) (H:bp c) (node f:Int) (u:bd) (hf:201≤f∧f≤206) (hn:iB node) (hu:okW true u=true) (h:(aD c node).head=true):
 VC E0 42 0 [.agg (b9 c),.s (.int .i64 node),.agg (aE (wJ f node c.chain c.aJ [u]))] [] (RR (.s (.int .i64 0)) 0 []):=by
 have kr:=yS f node c.chain c.aJ u (.inr hf) hn H.1 H.2.1 hu;have hs:=XB c H node f node c.chain c.aJ [u] h hf;refine en L0 Tryz.f42 ?_;refine⟨[],[],_,_,_,_,kr,t3,cw ?_⟩
 repeat((first|(refine⟨fun h_=>?_,fun h_=>?_⟩)|(refine aA (fun h_=>?_) (fun h_=>?_))|(refine az (fun h_=>?_) (fun h_=>?_)))<;>first|(exfalso;revert h_;decide;done)|(exact absurd rfl h_)|(have bq:=True.intro;clear bq;(conv=>whnf)))
 refine⟨[],[],_,_,_,_,lh c H,t3,cw ?_⟩;refine⟨[],[],_,_,_,_,m9 17 (.inr (.inr (.inl rfl))),t3,cw ?_⟩
 repeat((first|(refine⟨fun h_=>?_,fun h_=>?_⟩)|(refine aA (fun h_=>?_) (fun h_=>?_))|(refine az (fun h_=>?_) (fun h_=>?_)))<;>first|(exfalso;revert h_;decide;done)|(exact absurd rfl h_)|(have bq:=True.intro;clear bq;(conv=>whnf)))
 refine⟨[],[],_,_,_,_,hs,t3,cw ?_⟩;exact⟨[],[],_,_,_,t3,rfl,rfl,rfl⟩
@[reducible] def qQ (y:RS):TV→Ob→Nat→Prop:=RR (.tk 1) 2 [(0,lq (bG y)),(1,.arr 25 true (y.out.map aE))]
theorem Mk (x:RS) (f s d:Int) (us:List bd) (H:bp x.ao) (hf:iB f) (hn:iB x.node) (hu:us.all (okW false)=true) (h:(aD x.ao x.node).pred≠0∧f=(aD x.ao x.node).pred)
 (G:fB x) (htj:x.role.tail=true→x.role.lP=false) (hl:us.length≤4) (hd:∀u∈us,u.data.length≤2048∧Pv u)
 (tf:∀(i:Nat) (h:i<(bz us (aO x.ar)).length),fB (((bz us (aO x.ar)).take i).foldl te x)∧FD (((bz us (aO x.ar)).take i).foldl te x) (bz us (aO x.ar))[i])
 (G1:fB (fO x us)) (G2:js (ic (Dy x d us))) (G3:fB (oC x us)):
 VC E0 17 1 [.ptr 0 0,.agg (aE (r7 f x.node x.ao.chain x.ao.aJ s d us))] (gX x) (qQ (pH x d us)):=by
 have zb:=Tl x.ao H x.node f s d us hf hn hl hu h;have Q8:=Ma x f x.node x.ao.chain x.ao.aJ s d us G htj hl hd tf G1 G2 G3;refine en L0 Tryz.f17 ?_;refine⟨[],[],_,_,_,_,zb,t3,cw ?_⟩
 ((first|(refine⟨fun h_=>?_,fun h_=>?_⟩)|(refine aA (fun h_=>?_) (fun h_=>?_))|(refine az (fun h_=>?_) (fun h_=>?_)))<;>first|(exfalso;revert h_;decide;done)|(exact absurd rfl h_)|(have bq:=True.intro;clear bq;((conv=>whnf)<;>repeat(with_reducible refine D1 ?_)<;>conv=>whnf)))
 refine sp ?_ ?_<;>intro XC
 ·exact absurd (show(12:Int)=17 from XC) (by decide)
 refine wh ?_;refine sp ?_ ?_<;>intro k12
 ·refine wh ?_;refine⟨[],[some 0],_,_,_,_,Q8,t3,cw ?_⟩;refine⟨[],[some 0],_,_,_,_,dH (pH x d us),t3,cw ?_⟩;exact⟨[],[some 0,some 4],_,_,_,t3,rfl,rfl,rfl⟩
 ·exact absurd rfl k12
theorem Ml (x:RS) (f n s d sl:Int) (H:bp x.ao) (hf:iB f) (hn:iB x.node) (DK:0≤sl∧sl≤512) (h:(aD x.ao x.node).succ≠0∧f=(aD x.ao x.node).succ)
 (Hw:tC x.ar) (G1:fB (Dz x s)) (hh:(je x.ar (max x.bo s) 0).isSome=true) (hd:0≤d∧d≤1000000) (G2:js (v9 x s d)):
 VC E0 17 1 [.ptr 0 0,.agg (aE (qo f x.node x.ao.chain x.ao.aJ n s d sl))] (gX x) (qQ (la x s d)):=by
 have zb:=Tm x.ao H x.node f n s d sl hf hn DK h;have Q8:=P7 x f x.node x.ao.chain x.ao.aJ n s d sl (by have:=H.2.2.1;omega) Hw G1 hh hd G2;refine en L0 Tryz.f17 ?_;refine⟨[],[],_,_,_,_,zb,t3,cw ?_⟩
 ((first|(refine⟨fun h_=>?_,fun h_=>?_⟩)|(refine aA (fun h_=>?_) (fun h_=>?_))|(refine az (fun h_=>?_) (fun h_=>?_)))<;>first|(exfalso;revert h_;decide;done)|(exact absurd rfl h_)|(have bq:=True.intro;clear bq;((conv=>whnf)<;>repeat(with_reducible refine D1 ?_)<;>conv=>whnf)))
 refine sp ?_ ?_<;>intro XC
 ·exact absurd (show(13:Int)=17 from XC) (by decide)
 refine wh ?_;refine sp ?_ ?_<;>intro k12
 ·exact absurd (show(13:Int)=12 from k12) (by decide)
 refine wh ?_;refine sp ?_ ?_<;>intro k14
 ·exact absurd (show(13:Int)=14 from k14) (by decide)
 refine wh ?_;refine sp ?_ ?_<;>intro k13
 ·refine wh ?_;refine⟨[],[some 0],_,_,_,_,Q8,t3,cw ?_⟩;refine⟨[],[some 0],_,_,_,_,dH (la x s d),t3,cw ?_⟩;exact⟨[],[some 0,some 4],_,_,_,t3,rfl,rfl,rfl⟩
 ·exact absurd rfl k13
theorem Mm (x:RS) (f:Int) (u:bd) (H:bp x.ao) (hf:201≤f∧f≤206) (hn:iB x.node) (hu:okW true u=true) (h:(aD x.ao x.node).head=true)
 (G:fB x) (ho:x.cU=true) (hj:bV x.st.t u.aj u.num=0) (hd:jr x.ar<16) (U:FD x (u2 x u)) (G1:fB (jU x u)) (G2:js (v8 x u)):
 VC E0 17 1 [.ptr 0 0,.agg (aE (wJ f x.node x.ao.chain x.ao.aJ [u]))] (gX x) (qQ (gG x u)):=by
 have zb:=JQ x.ao H x.node f u hf hn hu h;have Q8:=P3 x f x.node x.ao.chain x.ao.aJ u G ho hj hd U G1 G2;refine en L0 Tryz.f17 ?_;refine⟨[],[],_,_,_,_,zb,t3,cw ?_⟩
 ((first|(refine⟨fun h_=>?_,fun h_=>?_⟩)|(refine aA (fun h_=>?_) (fun h_=>?_))|(refine az (fun h_=>?_) (fun h_=>?_)))<;>first|(exfalso;revert h_;decide;done)|(exact absurd rfl h_)|(have bq:=True.intro;clear bq;((conv=>whnf)<;>repeat(with_reducible refine D1 ?_)<;>conv=>whnf)))
 refine sp ?_ ?_<;>intro XC
 ·refine wh ?_;refine⟨[],[some 0],_,_,_,_,Q8,t3,cw ?_⟩;refine⟨[],[some 0],_,_,_,_,dH (gG x u),t3,cw ?_⟩;exact⟨[],[some 0,some 4],_,_,_,t3,rfl,rfl,rfl⟩
 ·exact absurd rfl XC
structure SR (a b:dp):Prop where
 e:a.e=b.e
 t:a.t=b.t
 keys:cM a.bs=cM b.bs
 last:∀k,(cE a k).getLast? =(cE b k).getLast?
theorem SR.refl (a:dp):SR a a:=⟨rfl,rfl,rfl,fun _=>rfl⟩
theorem SR.trans {a b c:dp} (h:SR a b) (k:SR b c):SR a c:=⟨h.e.trans k.e,h.t.trans k.t,h.keys.trans k.keys,fun x=>(h.last x).trans (k.last x)⟩
theorem SR.symm {a b:dp} (h:SR a b):SR b a:=⟨h.e.symm,h.t.symm,h.keys.symm,fun x=>(h.last x).symm⟩
theorem na (vs:List Vs):ba vs=vs.getLast?.getD cu:=by
 unfold ba v5;cases vs with
 |nil=>rfl
 |cons v l=>
  rw[if_pos (by simp),List.getLast?_eq_getElem?];have:(((v::l).length:Int) - 1).toNat=(v::l).length - 1:=by simp
  rw[this,List.getD_eq_getElem?_getD]
theorem Tn (vs:List Vs):0<vs.length↔vs.getLast?.isSome=true:=by cases vs<;>simp
theorem SR.ba {a b:dp} (h:SR a b) (k:Int):ba (cE a k)=ba (cE b k):=by rw[na,na,h.last k]
theorem SR.len {a b:dp} (h:SR a b):a.bs.length=b.bs.length:=by
 have:=congrArg List.length h.keys;simpa[cM]using this
theorem tG (s:dp) (k k':Int) (vs:List Vs):cE {s with bs:=iQ s.bs k vs} k'=if k'=k then vs else cE s k':=by
 unfold cE;dsimp only
 rw[mY];split<;>rfl
theorem Mn (vs ws:List Vs) (v:Vs) (h:vs.getLast? =ws.getLast?):(jP vs v).getLast? =(jP ws v).getLast?:=by
 have e:mZ vs v=mZ ws v:=by
  unfold mZ;simp only[Tn,na,h]
 unfold jP;rw[e];split
 ·simp
 ·exact h
theorem SR.zS {a b:dp} (h:SR a b) (k:Int) (v:Vs):SR (zS a k v) (zS b k v):=by
 refine⟨h.e,h.t,?_,fun x=>?_⟩
 ·show cM (iQ a.bs k _)=cM (iQ b.bs k _);rw[jq,jq,h.keys]
 ·show(cE {a with bs:=iQ a.bs k _} x).getLast? =(cE {b with bs:=iQ b.bs k _} x).getLast?;rw[tG,tG];split
  ·exact Mn _ _ v (h.last k)
  ·exact h.last x
theorem SR.apply {a b:dp} (h:SR a b) (u:bd):SR (dS a u).2 (dS b u).2:=by
 have hr:m4 a=m4 b:=by unfold m4;rw[h.len]
 have ho:k9 a u=k9 b u:=by unfold k9;rw[h.ba u.key,hr]
 unfold dS;rw[h.e,h.t];split
 ·exact h
 split
 ·exact h
 split
 ·exact⟨rfl,rfl,h.keys,h.last⟩
 ·have hw:SR (wrote a u) (wrote b u):=by
   have he:SR {a with e:=u.seq} {b with e:=u.seq}:=⟨rfl,h.t,h.keys,h.last⟩;unfold wrote;rw[ho];split
   ·exact he.zS u.key ⟨(k9 b u).2.1,u.seq,u.data⟩
   ·exact he
  have gL:CV a u=CV b u:=by unfold CV;rw[ho]
  rw[gL];exact⟨hw.e,rfl,hw.keys,hw.last⟩
theorem P8 {vs:List Vs} (h:vs≠[]) (d:Int):eJ vs d<vs.length:=by
 have h1:=tu (fun k=>decide (d<(vs.getD k cu).seq)) 0 vs.length (Nat.zero_le _);have h2:0<vs.length:=List.length_pos_iff.2 h;unfold eJ eU;omega
theorem Mo (vs:List Vs) (d:Int):(vs.drop (eJ vs d)).getLast? =vs.getLast?:=by
 by_cases h:vs=[]
 ·subst h;simp
 ·have:=P8 h d;rw[List.getLast?_drop,if_neg om]
theorem SR.gT (s:dp) (d k:Int):SR (gT s d k) s:=by
 unfold Go.M.gT;split
 ·rename_i vs h;have hk:k∈cM s.bs:=by
   refine Classical.byContradiction fun hn=>?_;rw[rV.2 hn]at h;cases h
  refine⟨rfl,rfl,?_,fun x=>?_⟩
  ·show cM (iQ s.bs k _)=_;rw[jq,if_pos hk]
  ·rw[tG];split
   ·rename_i e;subst e;rw[Mo];unfold cE;rw[h];rfl
   ·rfl
 ·exact .refl s
theorem SR.gV (s:dp) (d:Int):SR (gV s d) s:=by
 rw[td];have key:∀(ks:List Int) (r:dp×Nat),SR (kh d r ks).1 r.1:=by
  intro ks
  induction ks with
  |nil=>intro r;exact .refl _
  |cons k ks ih=>intro r;exact(ih (gU d r k)).trans (SR.gT r.1 d k)
 exact key _ _
structure UG (M:Int) (u:bd):Prop where
 kind:u.kind=2
 bA:u.bA=0
 aj:1≤u.aj∧u.aj≤6
 num:1≤u.num∧u.num≤M
 key:0≤u.key∧u.key≤4
 data:u.data.length≤2048
structure RG (M e:Int) (r:iy):Prop where
 aj:0≤r.aj∧r.aj≤6
 num:0≤r.num∧r.num≤M
 seq:0≤r.seq∧r.seq≤e
 code:0≤r.code∧r.code≤255
 bA:0≤r.bA∧r.bA≤e
structure SG (M:Int) (s:dp):Prop where
 e:0≤s.e
 nodup:(cM s.bs).Nodup
 keys:∀k∈cM s.bs,0≤k∧k≤4
 vs:∀k ws,dm s.bs k=some ws→(∀v∈ws,(0≤v.bA∧v.bA≤s.e)∧(0≤v.seq∧v.seq≤s.e)∧v.data.length≤2048)∧(ws.length:Int)≤s.e
 rows:∀c,RG M s.e (s.t.row c)
theorem RG.mono {M M' e e':Int} {r:iy} (h:RG M e r) (h1:M≤M') (h2:e≤e'):RG M' e' r:=⟨h.aj,⟨h.num.1,by have:=h.num.2;omega⟩,⟨h.seq.1,by have:=h.seq.2;omega⟩,h.code,⟨h.bA.1,by have:=h.bA.2;omega⟩⟩
theorem SG.mono {M M':Int} {s:dp} (h:SG M s) (h1:M≤M'):SG M' s:=⟨h.e,h.nodup,h.keys,h.vs,fun c=>(h.rows c).mono h1 (Int.le_refl _)⟩
theorem SG.len {M:Int} {s:dp} (h:SG M s):s.bs.length≤5:=by
 have h1:(cM s.bs).Sublist (cM s.bs):=List.Sublist.refl _;have h2:(cM s.bs).length≤([0,1,2,3,4]:List Int).length:=by
  refine h.nodup.length_le_of_subset fun k hk=>?_;have:=h.keys k hk;have:k=0∨k=1∨k=2∨k=3∨k=4:=by omega
  simpa using this
 simpa[cM]using h2
theorem SG.P9 {M:Int} {s:dp} (h:SG M s) (he:s.e≤50000):oK s:=⟨fun k ws hl=>by
 obtain⟨h1,h2⟩:=h.vs k ws hl;exact⟨fun v hv=>let⟨a,b,c⟩:=h1 v hv;⟨⟨a.1,om⟩,⟨b.1,om⟩,c⟩,om⟩⟩
theorem SG.Qa {M:Int} {s:dp} (h:SG M s):y9 s.t:=fun c=>by
 unfold iz;split
 ·exact⟨by decide,by decide⟩
 ·exact(h.rows c).aj
theorem SG.zero:SG 0 ⟨0,[],hH⟩:=⟨Int.le_refl _,List.nodup_nil,fun k hk=>(by cases hk),fun k ws h=>(by cases h),fun c=>by
 have:(hH).row c=iR:=by unfold ff.row;simp
 show RG 0 0 (hH.row c);rw[this];exact⟨⟨by decide,by decide⟩,⟨by decide,by decide⟩,⟨by decide,by decide⟩,⟨by decide,by decide⟩,⟨by decide,by decide⟩⟩⟩
theorem UG.chk {M:Int} {u:bd} (h:UG M u) (hs:1≤u.seq):qz u=0:=by
 have h1:=h.aj;have h2:=h.num;have h3:=h.data;have hk:vH u.kind=true:=by rw[h.kind];rfl
 have ho:Sf u=true:=by
  unfold Sf;simp only[Bool.and_eq_true,Bool.not_eq_true',decide_eq_true_eq,decide_eq_false_iff_not];exact⟨om,h.aj,h.num.1,.inl ⟨h.kind,h.bA⟩,h.data⟩
 unfold qz;rw[if_pos hk,if_neg om,if_pos ho]
theorem To (t:ff) (c c':Int) (r:iy) (h:1≤c∧c≤6):(t.put c r).row c'=if c'=c then r else t.row c':=by
 rcases C3 h with rfl |rfl |rfl |rfl |rfl |rfl
 ·by_cases e:c'=1<;>simp[ff.put,ff.row,e]
 ·by_cases e:c'=2<;>simp[ff.put,ff.row,e]
 ·by_cases e:c'=3<;>simp[ff.put,ff.row,e]
 ·by_cases e:c'=4<;>simp[ff.put,ff.row,e]
 ·by_cases e:c'=5<;>simp[ff.put,ff.row,e]
 ·by_cases e:c'=6<;>simp[ff.put,ff.row,e]
theorem SG.up {M:Int} {s:dp} (h:SG M s) {e:Int} (he:s.e≤e):SG M {s with e:=e}:=by
 have h0:=h.e;refine⟨by show 0≤e;omega,h.nodup,h.keys,fun k ws hl=>?_,fun c=>(h.rows c).mono (Int.le_refl _) he⟩;obtain⟨h1,h2⟩:=h.vs k ws hl;exact⟨fun v hv=>let⟨a,b,c⟩:=h1 v hv;⟨⟨a.1,by show v.bA≤e;omega⟩,⟨b.1,by show v.seq≤e;omega⟩,c⟩,by show(ws.length:Int)≤e;omega⟩
theorem SG.Db {M:Int} {s:dp} (h:SG M s) (k:Int):0≤(ba (cE s k)).bA∧(ba (cE s k)).bA≤s.e:=by
 have h0:=h.e;rw[na];cases hg:(cE s k).getLast? with
 |none=>exact⟨Int.le_refl _,h0⟩
 |some v=>
  cases hl:dm s.bs k with
  |none=>rw[jS hl]at hg;cases hg
  |some ws=>
   rw[jT hl]at hg;exact((h.vs k ws hl).1 v (List.mem_of_getLast? hg)).1
theorem SG.wrote {M:Int} {s:dp} (h:SG M s) {u:bd} (hu:UG M u) (hs:u.seq=s.e+1):SG M (wrote s u)∧(wrote s u).t=s.t∧(wrote s u).e=u.seq∧((k9 s u).1=0∨(k9 s u).1=9)∧0≤(k9 s u).2.1∧(k9 s u).2.1≤u.seq:=by
 have h0:=h.e;obtain⟨v1,v2⟩:=h.Db u.key;have hk:vH u.kind=true:=by rw[hu.kind];rfl
 have ho:k9 s u=(if((ba (cE s u.key)).bA=0∧m4 s=false)∨(ba (cE s u.key)).bA=18446744073709551615 then(9,(ba (cE s u.key)).bA,false)else(0,(ba (cE s u.key)).bA+1,true)):=by
  unfold k9 yH;rw[if_pos hk,if_neg (by rw[hu.kind];intro q;exact absurd q.1 (by decide))]
 have tf:=h.up (e:=u.seq) om;have hob:((k9 s u).1=0∨(k9 s u).1=9)∧0≤(k9 s u).2.1∧(k9 s u).2.1≤u.seq:=by
  rw[ho];split
  ·exact⟨.inr rfl,v1,by show(ba (cE s u.key)).bA≤_;omega⟩
  ·exact⟨.inl rfl,by show 0≤(ba (cE s u.key)).bA+1;omega,by show(ba (cE s u.key)).bA+1≤_;omega⟩
 refine⟨?_,?_,?_,hob⟩
 ·unfold Go.M.wrote;split
  ·have hn:=yG (n:=u.key) (v:=jP (cE {s with e:=u.seq} u.key) ⟨(k9 s u).2.1,u.seq,u.data⟩) h.nodup;refine⟨tf.e,hn,fun k hk=>?_,fun k ws hl=>?_,tf.rows⟩
   ·have hk:k∈cM (iQ s.bs u.key _):=hk;rw[jq]at hk;split at hk
    ·exact h.keys k hk
    ·rcases List.mem_append.1 hk with q|q
     ·exact h.keys k q
     ·simp at q;subst q;exact hu.key
   ·have hl:dm (iQ s.bs u.key _) k=some ws:=hl;rw[mY]at hl;split at hl
    ·cases hl;have hold:(∀v∈cE s u.key,(0≤v.bA∧v.bA≤u.seq)∧(0≤v.seq∧v.seq≤u.seq)∧v.data.length≤2048)∧((cE s u.key).length:Int)≤s.e:=by
      cases hq:dm s.bs u.key with
      |none=>rw[jS hq];exact⟨fun v hv=>(by cases hv),by simpa using h0⟩
      |some ws=>rw[jT hq];exact⟨(tf.vs u.key ws hq).1,(h.vs u.key ws hq).2⟩
     show(∀v∈jP (cE s u.key) _,_)∧((jP (cE s u.key) _).length:Int)≤u.seq;unfold jP;split
     ·refine⟨fun v hv=>?_,by rw[List.length_append];simp;omega⟩;rcases List.mem_append.1 hv with q|q
      ·exact hold.1 v q
      ·simp at q;subst q;exact⟨hob.2,⟨by show 0≤u.seq;omega,Int.le_refl _⟩,hu.data⟩
     ·exact⟨hold.1,by have:=hold.2;omega⟩
    ·exact tf.vs k ws hl
  ·exact tf
 ·unfold Go.M.wrote;split<;>rfl
 ·unfold Go.M.wrote;split<;>rfl
theorem SG.apply {M:Int} {s:dp} (h:SG M s) {u:bd} (hu:UG M u) (hs:u.seq=s.e+1):SG M (dS s u).2∧(dS s u).2.e=u.seq:=by
 have h0:=h.e;unfold dS;rw[if_neg (not_not_intro (hu.chk om)),if_neg om];split
 ·exact⟨h.up om,rfl⟩
 ·obtain⟨w1,w2,w3,w4,w5⟩:=h.wrote hu hs;refine⟨⟨w1.e,w1.nodup,w1.keys,w1.vs,fun c=>?_⟩,w3⟩;show RG M (Go.M.wrote s u).e ((HL s.t (CV s u)).row c);have hold:RG M (Go.M.wrote s u).e (s.t.row c):=by rw[←w2];exact w1.rows c
  unfold HL;split
  ·rw[To _ _ _ _ hu.aj];split
   ·rw[w3];exact⟨⟨by have:=hu.aj;show 0≤u.aj;omega,hu.aj.2⟩,⟨by have:=hu.num;show 0≤u.num;omega,hu.num.2⟩,⟨by show 0≤u.seq;omega,Int.le_refl _⟩,by show 0≤(k9 s u).1∧(k9 s u).1≤255;omega,w5⟩
   ·exact hold
  ·exact hold
theorem SG.gT {M:Int} {s:dp} (h:SG M s) (d k:Int):SG M (gT s d k):=by
 unfold Go.M.gT;split
 ·rename_i vs hl;obtain⟨h1,h2⟩:=h.vs k vs hl;have hk:k∈cM s.bs:=by
   refine Classical.byContradiction fun hn=>?_;rw[rV.2 hn]at hl;cases hl
  have qO:cM (iQ s.bs k (vs.drop (eJ vs d)))=cM s.bs:=by rw[jq,if_pos hk]
  refine⟨h.e,yG h.nodup,fun x hx=>h.keys x (qO▸hx),fun x ws hx=>?_,h.rows⟩;have hx:dm (iQ s.bs k _) x=some ws:=hx;rw[mY]at hx;split at hx
  ·cases hx;exact⟨fun v hv=>h1 v (List.mem_of_mem_drop hv),by rw[List.length_drop];show _≤s.e;omega⟩
  ·exact h.vs x ws hx
 ·exact h
theorem SG.gV {M:Int} {s:dp} (h:SG M s) (d:Int):SG M (gV s d):=by
 rw[td];have key:∀(ks:List Int) (r:dp×Nat),SG M r.1→SG M (kh d r ks).1:=by
  intro ks
  induction ks with
  |nil=>intro r hr;exact hr
  |cons k ks ih=>intro r hr;exact ih (gU d r k) (hr.gT d k)
 exact key _ _ h
def Ve (l:List bd):dp:=l.foldl (fun s u=>(dS s u).2) ⟨0,[],hH⟩
theorem zc (l:List bd) (u:bd):Ve (l++[u])=(dS (Ve l) u).2:=by unfold Ve;rw[List.foldl_append];rfl
theorem SG.fresh {M:Int} {s:dp} (h:SG M s) {c n:Int} (hc:1≤c∧c≤6) (hn:M<n) (hM:0≤M):bV s.t c n=0:=by
 have:=(h.rows c).num;unfold bV;rw[if_neg (by rintro(q|q);exact q hc;omega),if_pos om]
structure LG (M:Int) (L:List bd):Prop where
 seq:∀(i:Nat) u,L[i]? =some u→u.seq=(i:Int)+1
 ok:∀u∈L,UG M u
theorem UG.mono {M M':Int} {u:bd} (h:UG M u) (k:M≤M'):UG M' u:=⟨h.kind,h.bA,h.aj,⟨h.num.1,by have:=h.num.2;omega⟩,h.key,h.data⟩
theorem LG.mono {M M':Int} {L:List bd} (h:LG M L) (k:M≤M'):LG M' L:=⟨h.seq,fun u hu=>(h.ok u hu).mono k⟩
theorem LG.snoc {M:Int} {L:List bd} (h:LG M L) {u:bd} (hu:UG M u) (hs:u.seq=(L.length:Int)+1):LG M (L++[u]):=by
 refine⟨fun i v hv=>?_,fun v hv=>?_⟩
 ·rcases Nat.lt_or_ge i L.length with q|q
  ·rw[List.getElem?_append_left q]at hv;exact h.seq i v hv
  ·rw[List.getElem?_append_right q]at hv;have hi:i=L.length:=by
    have:=(List.getElem?_eq_some_iff.1 hv).1;simp at this;omega
   subst hi;simp at hv;subst hv;exact hs
 ·rcases List.mem_append.1 hv with q|q
  ·exact h.ok v q
  ·simp at q;subst q;exact hu
theorem Dc {M:Int} (hM:0≤M):∀(n:Nat) {L:List bd},L.length=n→LG M L→SG M (Ve L)∧(Ve L).e=n
 |0,L,hn,_=>by
  obtain rfl:=List.length_eq_zero_iff.1 hn;exact⟨SG.zero.mono hM,rfl⟩
 |n+1,L,hn,h=>by
  have bc:L≠[]:=by intro e;subst e;simp at hn
  have e:=List.dropLast_concat_getLast bc;generalize L.dropLast=K at e;generalize L.getLast bc=u at e;subst e;rw[List.length_append]at hn;have hn:K.length=n:=by simpa using hn
  have hK:LG M K:=⟨fun i v hv=>h.seq i v (by rw[List.getElem?_append_left (List.getElem?_eq_some_iff.1 hv).1];exact hv),fun v hv=>h.ok v (List.mem_append_left _ hv)⟩;obtain⟨h1,h2⟩:=Dc hM n hn hK;have hs:u.seq=(K.length:Int)+1:=h.seq K.length u (by simp);obtain⟨k1,k2⟩:=h1.apply (h.ok u (by simp)) om;rw[zc];exact⟨k1,by rw[k2,hs];omega⟩
def vk (k:Int) (L:List bd):Int:=(ba (cE (Ve L) k)).bA
def VI (L:List bd) (s:dp):Prop:=∀k,∀v∈cE s k,1≤v.seq∧v.seq≤L.length∧v.bA=vk k (L.take v.seq.toNat)
structure Gs (L:List bd) (s:dp):Prop where
 sr:SR s (Ve L)
 vi:VI L s
theorem Gs.zero:Gs [] ⟨0,[],hH⟩:=⟨.refl _,fun k v h=>by cases h⟩
theorem Gs.last {L:List bd} {s:dp} (h:Gs L s) (k:Int):(ba (cE s k)).bA=vk k L:=by
 unfold vk;rw[h.sr.ba k]
theorem FG (s:dp) (u:bd) (k:Int):cE (dS s u).2 k=cE s k∨∃v:Vs,v.seq=u.seq∧mZ (cE s k) v=0∧cE (dS s u).2 k=cE s k++[v]:=by
 unfold dS;split
 ·exact .inl rfl
 split
 ·exact .inl rfl
 split
 ·exact .inl rfl
 ·show cE (Go.M.wrote s u) k=cE s k∨∃v:Vs,_∧_∧cE (Go.M.wrote s u) k=_;unfold Go.M.wrote;split
  ·rw[show cE (zS {s with e:=u.seq} u.key ⟨(k9 s u).2.1,u.seq,u.data⟩) k=_ from tG {s with e:=u.seq} u.key k _];split
   ·rename_i e;subst e;show jP (cE s _) _=cE s _∨∃v:Vs,_∧_∧jP (cE s _) _=_;unfold jP;split
    ·rename_i hp;exact .inr ⟨_,rfl,hp,rfl⟩
    ·exact .inl rfl
   ·exact .inl rfl
  ·exact .inl rfl
theorem Gs.up {L:List bd} {s:dp} (h:Gs L s) {u:bd} (hs:u.seq=(L.length:Int)+1):Gs (L++[u]) (dS s u).2:=by
 have hsr:SR (dS s u).2 (Ve (L++[u])):=by rw[zc];exact h.sr.apply u
 refine⟨hsr,fun k v hv=>?_⟩;have old:∀v∈cE s k,1≤v.seq∧v.seq≤(L++[u]).length∧v.bA=vk k ((L++[u]).take v.seq.toNat):=fun v hv=>by
  obtain⟨h1,h2,h3⟩:=h.vi k v hv;refine⟨h1,by rw[List.length_append];simp;omega,?_⟩;rw[List.take_append_of_le_length om];exact h3
 rcases FG s u k with e|⟨w,hw,_,e⟩
 ·rw[e]at hv;exact old v hv
 ·have hl:ba (cE (dS s u).2 k)=w:=by rw[e];exact eW _ _
  rw[e]at hv;rcases List.mem_append.1 hv with q|q
  ·exact old v q
  ·rw[List.mem_singleton]at q;subst q;refine⟨om,by rw[List.length_append];simp;omega,?_⟩;rw[List.take_of_length_le (by rw[List.length_append];simp;omega)];unfold vk;rw[←hsr.ba k,hl]
theorem Mp (s:dp) (d x k:Int) (v:Vs) (h:v∈cE (Go.M.gT s d x) k):v∈cE s k:=by
 unfold Go.M.gT at h;split at h
 ·rename_i vs hl;have e:=tG s x k (vs.drop (eJ vs d));rw[e]at h;split at h
  ·rename_i e2;subst e2;show v∈(dm s.bs _).getD [];rw[hl];exact List.mem_of_mem_drop h
  ·exact h
 ·exact h
theorem Mq (s:dp) (d k:Int) (v:Vs) (h:v∈cE (gV s d) k):v∈cE s k:=by
 rw[td]at h;have key:∀(ks:List Int) (r:dp×Nat),v∈cE (kh d r ks).1 k→v∈cE r.1 k:=by
  intro ks
  induction ks with
  |nil=>intro r hr;exact hr
  |cons x ks ih=>intro r hr;exact Mp r.1 d x k v (ih (gU d r x) hr)
 exact key _ _ h
theorem Gs.gV {L:List bd} {s:dp} (h:Gs L s) (d:Int):Gs L (Go.M.gV s d):=⟨(SR.gV s d).trans h.sr,fun k v hv=>h.vi k v (Mq s d k v hv)⟩
theorem XD {M:Int} {s:dp} (h:SG M s) {u:bd} (hu:UG M u) (hs:u.seq=s.e+1) (k:Int):(ba (cE s k)).bA≤(ba (cE (dS s u).2 k)).bA:=by
 have h1:=((h.apply hu hs).1.Db k).1;rcases FG s u k with e|⟨w,hw,hp,e⟩
 ·rw[e];exact Int.le_refl _
 ·rw[e,eW]at h1 ⊢;by_cases hn:cE s k=[]
  ·rw[hn];exact h1
  ·have sk:0<(cE s k).length:=List.length_pos_iff.2 hn;unfold mZ at hp;split at hp
   ·cases hp
   split at hp
   ·cases hp
   split at hp
   ·cases hp
   ·rename_i h3;have:¬(w.bA - 1≠(ba (cE s k)).bA):=fun q=>h3 ⟨sk,.inl q⟩;omega
theorem wP {M:Int} (hM:0≤M) (k:Int) {G:List bd}:∀(n:Nat) {L:List bd},L.length=n→LG M L→G<+:L→vk k G≤vk k L
 |0,L,hn,_,hp=>by
  obtain rfl:=List.length_eq_zero_iff.1 hn;rw[List.prefix_nil.1 hp];exact Int.le_refl _
 |n+1,L,hn,h,hp=>by
  have bc:L≠[]:=by intro e;subst e;simp at hn
  have e:=List.dropLast_concat_getLast bc;generalize L.dropLast=K at e;generalize L.getLast bc=u at e;subst e;rw[List.length_append]at hn;have hn:K.length=n:=by simpa using hn
  have hK:LG M K:=⟨fun i v hv=>h.seq i v (by rw[List.getElem?_append_left (List.getElem?_eq_some_iff.1 hv).1];exact hv),fun v hv=>h.ok v (List.mem_append_left _ hv)⟩;rcases List.prefix_concat_iff.1 hp with rfl |hp
  ·exact Int.le_refl _
  ·refine Int.le_trans (wP hM k n hn hK hp) ?_;obtain⟨h1,h2⟩:=Dc hM n hn hK;have hs:u.seq=(K.length:Int)+1:=h.seq K.length u (by simp);unfold vk;rw[zc];exact XD h1 (h.ok u (by simp)) om k
theorem Qb {M:Int} (hM:0≤M) {L:List bd} (h:LG M L) (k:Int):0≤vk k L∧vk k L≤L.length:=by
 obtain⟨h1,h2⟩:=Dc hM _ rfl h;have:=h1.Db k;unfold vk;omega
theorem Qc (p:Nat→Bool) (i j:Nat):kB p i j=i∨p (kB p i j - 1)=false:=by
 induction i,j using kB.induct (p:=p)with
 |case1 i j h hp ih=>rw[H8 h hp];exact ih
 |case2 i j h hp ih=>
  have hp:p ((i+j) / 2)=false:=by simpa using hp
  rw[H9 h hp];rcases ih with q|q
  ·exact .inr (by rw[q];exact hp)
  ·exact .inr q
 |case3 i j h=>rw[C2 h];exact .inl rfl
theorem Mr (vs:List Vs) (d:Int):v5 vs (eU vs d)=cu∨(v5 vs (eU vs d)∈vs∧(v5 vs (eU vs d)).seq≤d):=by
 have h1:=Qc (fun k=>decide (d<(vs.getD k cu).seq)) 0 vs.length;have h2:=tu (fun k=>decide (d<(vs.getD k cu).seq)) 0 vs.length (Nat.zero_le _);unfold eU;generalize kB (fun k=>decide (d<(vs.getD k cu).seq)) 0 vs.length=r at h1 h2;by_cases hr:r=0
 ·exact .inl (JE (.inl om))
 ·rcases h1 with h1|h1
  ·exact absurd h1 hr
  have bH:r - 1<vs.length:=by omega
  have e:((r:Nat):Int) - 1=((r - 1:Nat):Int):=by omega
  rw[e,H6 bH];refine .inr ⟨List.getElem_mem bH,?_⟩;have h1:=of_decide_eq_false h1;have e2:vs.getD (r - 1) cu=vs[r - 1]:=by simp[List.getD,bH]
  rw[e2]at h1;omega
section
variable {M:Int} {L G:List bd} {s:dp}
theorem Gs.JR (h:Gs L s) (hM:0≤M) (hG:LG M G) (hp:G<+:L) {d k:Int} (hd:d≤G.length) {v:Vs} (hv:v∈cE s k) (hs:v.seq≤d):v.bA≤vk k G:=by
 obtain⟨h1,h2,h3⟩:=h.vi k v hv;obtain⟨q,rfl⟩:=hp;rw[h3,List.take_append_of_le_length om];exact wP hM k _ rfl hG (List.take_prefix _ _)
theorem Im (h:Gs L s) (hM:0≤M) (hG:LG M G) (hp:G<+:L) {d k v:Int} (hd:d≤G.length) (hv:v≤vk k G) (ho:v=0∨(kj (cE s k) v d).bA≠0):v≤(kj (cE s k) v d).bA∧(kj (cE s k) v d).bA≤vk k G:=by
 have hg:=Qb hM hG k;unfold kj at ho ⊢;split
 ·omega
 ·rename_i h1;rw[if_neg h1]at ho;split
  ·rename_i h2;refine⟨om,?_⟩;rcases Mr (cE s k) d with e|⟨e1,e2⟩
   ·rw[e];exact hg.1
   ·exact h.JR hM hG hp hd e1 e2
  ·rename_i h2;rw[if_neg h2]at ho;rcases ho with ho|ho
   ·subst ho;exact⟨Int.le_refl _,hg.1⟩
   ·exact absurd rfl ho
theorem Ms (h:Gs L s) (hM:0≤M) (hL:LG M L) (hG:LG M G) (hp:G<+:L) {d k:Int} (hd:d≤G.length) (hn:¬(0<(cE s k).length∧d<(ba (cE s k)).seq)):(ba (cE s k)).bA=vk k G:=by
 have h1:=wP hM k _ rfl hL hp;have h2:=h.last k;have h3:=Qb hM hG k;by_cases he:cE s k=[]
 ·have h0:(ba (cE s k)).bA=0:=by rw[he];rfl
  omega
 ·have sk:0<(cE s k).length:=List.length_pos_iff.2 he;have hm:ba (cE s k)∈cE s k:=by
   rw[na,List.getLast?_eq_some_getLast he];exact List.getLast_mem he
  have:=h.JR hM hG hp hd hm (by
   refine Int.not_lt.1 fun q=>hn ⟨sk,q⟩)
  omega
end
structure WI (L:List bd) (w:gW):Prop where
 low:0≤w.low
 ld:w.low≤w.done
 de:w.done≤L.length
 l:w.l=L.drop w.low.toNat
theorem WI.end_ {L:List bd} {w:gW} (h:WI L w):aO w=L.length:=by
 have h1:=h.low;have h2:=h.ld;have h3:=h.de;show w.low+(w.l.length:Nat)=_;rw[h.l,List.length_drop];omega
theorem WI.trim {L:List bd} {w:gW} (h:WI L w):WI L (lQ w)∧(lQ w).done=w.done:=by
 have h1:=h.low;have h2:=h.ld;have h3:=h.de;have he:=h.end_;unfold lQ;split
 ·exact⟨h,rfl⟩
 ·refine⟨⟨by show 0≤max w.low _;omega,by show max w.low _≤w.done;omega,h3,?_⟩,rfl⟩;show w.l.drop _=L.drop (max w.low _).toNat
  rw[h.l,List.drop_drop]
  congr 1
  omega
theorem WI.add {M:Int} {L:List bd} {w:gW} (h:WI L w) {u:bd} (hu:UG M u) (hs:u.seq=(L.length:Int)+1):WI (L++[u]) (yR w u)∧(yR w u).done=w.done:=by
 have h1:=h.low;have h2:=h.ld;have h3:=h.de;have he:=h.end_;have hw:WI (L++[u]) {w with l:=w.l++[u]}:=⟨h1,h2,by rw[List.length_append];show w.done≤_;simp;omega,by
  show w.l++[u]=(L++[u]).drop w.low.toNat
  rw[h.l,List.drop_append_of_le_length om]⟩
 have e:yR w u=lQ {w with l:=w.l++[u]}:=by
  unfold yR;rw[if_neg (not_not_intro (hu.chk om)),if_neg om]
 rw[e];exact hw.trim
theorem WI.reach {L:List bd} {w:gW} (h:WI L w) (n:Int):WI L (cS w n).2∧(cS w n).2.done=max w.done (min n L.length)∧(cS w n).1.length≤L.length:=by
 have h1:=h.low;have h2:=h.ld;have h3:=h.de;have he:=h.end_;have hr:b5 w n=max w.done (min n L.length):=by unfold b5;rw[he]
 have hw:WI L {w with done:=b5 w n}:=⟨h1,by show w.low≤b5 w n;omega,by show b5 w n≤_;omega,h.l⟩;refine⟨hw.trim.1,by rw[←hr];exact hw.trim.2,?_⟩;have:=lf w.done w.l (b5 w n - w.done);have hl:w.l.length≤L.length:=by rw[h.l,List.length_drop];omega
 show(bR w.done w.l (b5 w n - w.done)).length≤_;omega
structure NI (c:CF) (j M:Int) (L:List bd) (x:RS):Prop where
 node:x.node=j
 ao:x.ao=c
 role:x.role=aD c j
 cU:x.cU=true
 comes:x.comes=LD
 log:LG M L
 st:Gs L x.st
 sg:SG M x.st
 ar:WI L x.ar
 base:0≤x.base∧x.base≤L.length
 M0:0≤M
theorem NI.e {c:CF} {j M:Int} {L:List bd} {x:RS} (N:NI c j M L x):x.st.e=L.length:=N.st.sr.e.trans (Dc N.M0 _ rfl N.log).2
theorem NI.mono {c:CF} {j M M':Int} {L:List bd} {x:RS} (N:NI c j M L x) (h:M≤M'):NI c j M' L x:=⟨N.node,N.ao,N.role,N.cU,N.comes,N.log.mono h,N.st,N.sg.mono h,N.ar,N.base,by have:=N.M0;omega⟩
def LK (c:CF) (j:Int) (L:List bd) (d b:Int) (m:Lr):Prop:=(m.kind=18∧200≤m.to)∨
 (∃s dd us,m=r7 j (aD c j).succ c.chain c.aJ s dd us∧(aD c j).succ≠0∧us.length≤4∧∀u∈us,u∈L)∨
 (∃s dd,m=qo j (aD c j).pred c.chain c.aJ 0 s dd 0∧(aD c j).pred≠0∧s≤L.length∧0≤dd∧dd≤d∧dd≤s∧b≤s)
theorem LK.mono {c:CF} {j:Int} {L L':List bd} {d d' b:Int} {m:Lr} (h:LK c j L d b m) (hL:L<+:L') (hd:d≤d'):LK c j L' d' b m:=by
 rcases h with h|⟨s,dd,us,h1,h2,h3,h4⟩|⟨s,dd,h1,h2,h3,h4,h5,h6,h7⟩
 ·exact .inl h
 ·exact .inr (.inl ⟨s,dd,us,h1,h2,h3,fun u hu=>hL.subset (h4 u hu)⟩)
 ·exact .inr (.inr ⟨s,dd,h1,h2,by have:=hL.length_le;omega,h4,om,h6,h7⟩)
structure oR (c:CF) (j M:Int) (L L':List bd) (x y:RS) (k:Nat):Prop where
 ni:NI c j M L' y
 pre:L<+:L'
 done:x.ar.done≤y.ar.done
 base:y.base=x.base
 Mt:∀m∈y.out,m∈x.out∨LK c j L' y.ar.done y.base m
 len:y.out.length≤x.out.length+k
theorem oR.trans {c:CF} {j M:Int} {L L' L'':List bd} {x y z:RS} {a b:Nat} (h:oR c j M L L' x y a) (k:oR c j M L' L'' y z b):oR c j M L L'' x z (a+b):=
 ⟨k.ni,h.pre.trans k.pre,Int.le_trans h.done k.done,k.base.trans h.base,fun m hm=>by
  rcases k.Mt m hm with q|q
  ·rcases h.Mt m q with q|q
   ·exact .inl q
   ·exact .inr (by rw[k.base];exact q.mono k.pre k.done)
  ·exact .inr q,by have:=h.len;have:=k.len;omega⟩
theorem oR.refl {c:CF} {j M:Int} {L:List bd} {x:RS} (N:NI c j M L x):oR c j M L L x x 0:=⟨N,List.prefix_refl _,Int.le_refl _,rfl,fun _ h=>.inl h,Nat.le_refl _⟩
theorem NI.ack {c:CF} {j M:Int} {L:List bd} {x:RS} (N:NI c j M L x):oR c j M L L x (ic x) 1:=by
 unfold ic;split
 ·exact⟨N,List.prefix_refl _,Int.le_refl _,rfl,fun _ h=>.inl h,Nat.le_succ _⟩
 ·rename_i hp;have hd:=N.ar.ld;have u5:=N.ar.low;have hde:=N.ar.de;refine⟨⟨N.node,N.ao,N.role,N.cU,N.comes,N.log,N.st,N.sg,N.ar,N.base,N.M0⟩,List.prefix_refl _,Int.le_refl _,rfl,fun m hm=>?_,by show(x.out++[_]).length≤_;rw[List.length_append];exact Nat.le_refl _⟩;rcases List.mem_append.1 hm with q|q
  ·exact .inl q
  ·simp only[List.mem_singleton]at q;refine .inr (.inr (.inr ⟨aO x.ar,x.ar.done,?_,by rw[←N.role];exact hp,by rw[N.ar.end_];exact Int.le_refl _,om,Int.le_refl _,by rw[N.ar.end_];omega,by rw[N.ar.end_];exact N.base.2⟩));rw[q];show pG x {Q6 with kind:=13,seq:=aO x.ar,done:=x.ar.done,num:=x.comes.at_,slot:=x.comes.next} x.role.pred=_;rw[N.comes,N.role];unfold pG;rw[if_neg (show¬(13:Int)=18 by decide),N.node,N.ao]
theorem NI.eV {c:CF} {j M:Int} {L:List bd} {x:RS} (N:NI c j M L x) {st:dp} (hr:y9 st.t) (u:bd):oR c j M L L x (eV st x u) 1:=by
 unfold Go.M.eV;split
 ·refine⟨⟨N.node,N.ao,N.role,N.cU,N.comes,N.log,N.st,N.sg,N.ar,N.base,N.M0⟩,List.prefix_refl _,Int.le_refl _,rfl,fun m hm=>?_,by show(x.out++[_]).length≤_;rw[List.length_append];exact Nat.le_refl _⟩;rcases List.mem_append.1 hm with q|q
  ·exact .inl q
  ·simp only[List.mem_singleton]at q;refine .inr (.inl ?_);rw[q];exact⟨rfl,by have:=(hr u.aj).1;show 200≤200+(iz st.t u.aj).1.aj;omega⟩
 ·exact⟨N,List.prefix_refl _,Int.le_refl _,rfl,fun _ h=>.inl h,Nat.le_succ _⟩
theorem NI.Vf {c:CF} {j M:Int} {L:List bd} {st:dp} (hr:y9 st.t):∀(l:List bd) {x:RS},NI c j M L x→oR c j M L L x (l.foldl (Go.M.eV st) x) l.length
 |[],_,N=>.refl N
 |u::l,x,N=>by
  have h:=(N.eV hr u).trans (NI.Vf hr l (N.eV hr u).ni);rw[List.length_cons,Nat.add_comm];exact h
theorem NI.done {c:CF} {j M:Int} {L:List bd} {x:RS} (N:NI c j M L x) (n:Int):oR c j M L L x (cO x n) (L.length+1)∧(cO x n).ar.done=max x.ar.done (min n L.length):=by
 obtain⟨w1,w2,w3⟩:=N.ar.reach n;have N1:NI c j M L {x with ar:=(cS x.ar n).2}:=⟨N.node,N.ao,N.role,N.cU,N.comes,N.log,N.st,N.sg,w1,N.base,N.M0⟩;have A1:oR c j M L L x {x with ar:=(cS x.ar n).2} 0:=⟨N1,List.prefix_refl _,by show _≤(cS x.ar n).2.done;rw[w2];omega,rfl,fun _ h=>.inl h,Nat.le_refl _⟩;have A2:=A1.trans (NI.Vf N.sg.Qa (cS x.ar n).1 N1);have Tp:=(qq x.st (cS x.ar n).1 {x with ar:=(cS x.ar n).2}).ar;have bW:=(qq x.st (cS x.ar n).1 {x with ar:=(cS x.ar n).2}).st;unfold cO;dsimp only
 generalize (cS x.ar n).1.foldl (Go.M.eV x.st) {x with ar:=(cS x.ar n).2}=y at A2 Tp bW;have Ny:=A2.ni;have bW:y.st=x.st:=bW;have Tp:y.ar=(cS x.ar n).2:=Tp;have N3:NI c j M L {y with st:=gV x.st (cS x.ar n).2.done}:=⟨Ny.node,Ny.ao,Ny.role,Ny.cU,Ny.comes,Ny.log,N.st.gV _,N.sg.gV _,Ny.ar,Ny.base,Ny.M0⟩;have A3:oR c j M L L x {y with st:=gV x.st (cS x.ar n).2.done} L.length:=⟨N3,A2.pre,A2.done,A2.base,A2.Mt,by have:=A2.len;show y.out.length≤_;omega⟩;have M4:y.ar.done=max x.ar.done (min n L.length):=by rw[Tp];exact w2
 split
 ·refine⟨A3.trans N3.ack,?_⟩;have:∀z:RS,(ic z).ar=z.ar:=fun z=>by unfold ic;split<;>rfl
  rw[this];exact M4
 ·exact⟨⟨A3.ni,A3.pre,A3.done,A3.base,A3.Mt,by have:=A3.len;omega⟩,M4⟩
theorem FH:VC E0 72 0 [] [] (RR (.ptr 0 0) 1 [(0,inT LD)]):=by
 refine en L0 Tryz.f72 ?_;exact⟨[],[some 0],_,_,_,t3,rfl,rfl,rfl⟩
theorem Qd (c:CF) (h:c.aJ≠0):VC E0 67 0 [.agg (b9 c),.agg PQ] [] (RR (.s (.bool false)) 0 []):=by
 refine en L0 Tryz.f67 ?_;refine sp ?_ ?_<;>intro h1
 ·refine wh ?_;refine sp ?_ ?_<;>intro h2
  ·exact absurd h2 h
  ·refine wh ?_;exact⟨[],[],_,_,_,t3,rfl,rfl,rfl⟩
 ·refine wh ?_;exact⟨[],[],_,_,_,t3,rfl,rfl,rfl⟩
@[reducible] def aez (x:RS) (c:CF):RS:={x with ao:=c,role:=aD c x.node,base:=aO x.ar,bo:=0,known:=false,want:=0,comes:=LD}
theorem XE (x:RS) (c:CF) (H:bp c) (Hw:tC x.ar):VC E0 73 1 [.ptr 0 0,.agg (b9 c)] (gX x) (RR (.dF []) 1 (gX (aez x c))):=by
 have hcp:=Bi [c] (by show(1:Nat)<10000;decide) (fun d hd=>by simp at hd;subst hd;have:=H.2.2.1;omega);have tU:=fC c H x.node;have fF:=eO x.ar Hw;refine en L0 Tryz.f73 ?_;refine⟨[2],[],_,_,_,_,hcp,t3,cw ?_⟩;refine⟨⟨by decide,by simp⟩,?_⟩;refine wh ?_;refine⟨b9 c,rfl,?_⟩;refine wh ?_;refine⟨[],[],_,_,_,_,tU,t3,cw ?_⟩;refine⟨[],[some 4],_,_,_,_,fF,t3,cw ?_⟩;refine⟨[],[],_,_,_,_,FH,t3,cw ?_⟩;exact⟨[],[some 0],_,_,_,t3,rfl,rfl,rfl⟩
theorem Tq (c:CF) (node:Int) (H:bp c) (hn:1≤node∧node≤24) (hf:c.fresh=false) (hi:(aD c node).m7=true):VC E0 32 0 [.s (.int .i64 node),.agg (b9 c)] [] (RR (.dF [.ptr 0 0,.s (.int .i64 0)]) 1 (gX (Fj node c))):=by
 have fL:=Qd c (by have:=H.2.1;omega);have oQ:=JC node;rw[decide_eq_true hn]at oQ;have tU:=fC c H node;have hw0:tC ⟨0,0,[]⟩:=⟨⟨by decide,by decide⟩,⟨by decide,by decide⟩,by decide,fun u hu=>by cases hu⟩;have cQ:=XE ⟨node,⟨0,0,[],false,0⟩,uM,⟨0,[],hH⟩,⟨0,0,[]⟩,0,false,0,false,0,LD,[]⟩ c H hw0;obtain⟨r,hr⟩:∃r,r=aD c node:=⟨_,rfl⟩;rw[←hr]at tU hi;obtain⟨ri,rj,rh,rt,JN,M5,L9,JO⟩:=r;have hi:ri=true:=hi;subst hi;obtain⟨c1,c2,c3,c4,c5⟩:=c;have hf:c4=false:=hf;subst hf;refine en L0 Tryz.f32 ?_;refine⟨[],[],_,_,_,_,fL,t3,cw ?_⟩;refine⟨[],[],_,_,_,_,oQ,t3,cw ?_⟩;refine⟨[],[],_,_,_,_,tU,t3,cw ?_⟩
 refine⟨[],[],_,_,_,_,PW,t3,cw ?_⟩;refine⟨[],[],_,_,_,_,Td 0,t3,cw ?_⟩;refine⟨[],[],_,_,_,_,FH,t3,cw ?_⟩;refine⟨[],[some 4],_,_,_,_,cQ,t3,cw ?_⟩;exact⟨[],[some 4],_,_,_,t3,rfl,rfl,rfl⟩
end Go.M
