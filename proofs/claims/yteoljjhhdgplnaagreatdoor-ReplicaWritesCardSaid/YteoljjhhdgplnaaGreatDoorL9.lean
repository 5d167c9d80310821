/-
  Part 9 of the library that the proof leans on.
-/
import Derived.Test.YteoljjhhdgplnaaGreatDoorL8
import Derived.IntWalk
import Derived.DataReads
namespace Go.M
open Go
section
variable {T E:Env} {X:Cx} {ρ:Gh} {F:Nat→Prop} {o:Ob} {c:Nat} {af:AF} {f:Fr} {h:ah} {p:Oper} {K:OK}
theorem g7.CY {canon:Option Value} (H:Mem X ρ F o c h) (R:g7 c ρ F h o canon K) (hp:aB E af p=canon):ee E X ρ F o c af h p K:=by
 obtain⟨v,x,h1,h2,h3⟩:=R;exact ee.pure H (hp.trans h1) h2 h3
theorem Of (L:bR T E) (H:Mem X ρ F o c h) {t:TypeId} {x:TV} {xv:Value} (hw:Rz T t x o c K) (hx:VR c ρ F h x xv)
 (hp:∀d,E.desc t=some d→aB E af p=(match(generalizing:=false) d,xv with
  | .string,.string s=>some (goInt s.size)
  | .array n _,_=>some (goInt n)
  | .slice _,.slice _ n _=>some (goInt n)
  | .map _ _,.map none=>some (goInt 0)
  |_,_=>none))
 (hq:∀k e r,E.desc t=some (.map k e)→xv= .map (some r)→bt E af p=some (.len r)):ee E X ρ F o c af h p K:=by
 unfold Rz at hw;split at hw
 ·rename_i hd;split at hw
  ·have:=hx.de.1;subst this;exact ee.pure H (hp _ (L.desc _ _ hd)) (.s rfl) hw
  ·exact hw.elim
 ·rename_i n e hd;exact ee.pure H ((hp _ (L.desc _ _ hd)).trans (by cases xv<;>rfl)) (.s rfl) hw
 ·rename_i e hd;have arr:∀{m:Nat} {y:TO},look o m=some y→wP y=true→VR c ρ F h (.tk m) xv→K (.s (goInt (BC y))) o c .pure→ee E X ρ F o c af h p K:=by
   intro m y hl hy hx hw;obtain⟨Sm,hO⟩:=H.bN hl;have:∃a k,xv= .slice a (BC y) k:=by
    rcases hO.tk hy hx with⟨h0,_,rfl |⟨b,o',cs,_,_,_,_,rfl⟩⟩|⟨b,cap,_,_,rfl⟩
    ·rw[h0];exact⟨none,0,rfl⟩
    ·rw[h0];exact⟨_,0,rfl⟩
    ·exact⟨_,_,rfl⟩
   obtain⟨a,k,rfl⟩:=this;exact ee.pure H (hp _ (L.desc _ _ hd)) (.s rfl) hw
  split at hw
  ·cases hx with
   |bg hb=>exact ee.pure H (hp _ (L.desc _ _ hd)) (.s rfl) hw
  ·rename_i m;split at hw
   ·rename_i hl;exact arr hl rfl hx hw
   ·rename_i hl;exact arr hl rfl hx hw
   ·exact hw.elim
  ·cases hx with
   |nil h1=>subst h1;exact ee.pure H (hp _ (L.desc _ _ hd)) (.s rfl) hw
   |sl q1 q2 q3 q4=>subst q4;exact ee.pure H (hp _ (L.desc _ _ hd)) (.s rfl) hw
  ·rename_i m k;split at hw
   ·rename_i hl;obtain⟨Ur,hK⟩:=hw;obtain⟨Sm,hO⟩:=H.bN hl;cases hx with
    |pv CT nR ha h0=>
    have:∃a q,xv= .slice a k q:=by
     cases hO with
     |nil hb hz=>
      have E6:k=0:=by simpa using Ur
      subst E6;rcases h0 _ hb with rfl |⟨b,o',cs,_,_,_,_,rfl⟩
      ·exact⟨none,0,rfl⟩
      ·exact⟨_,0,rfl⟩
     |arr hb hg hf ht dy iJ cb kq fS hc hF=>
      obtain⟨cap,_,rfl⟩:=ha _ _ _ hb;exact⟨_,_,rfl⟩
    obtain⟨a,q,rfl⟩:=this;exact ee.pure H (hp _ (L.desc _ _ hd)) (.s rfl) hK
   ·exact hw.elim
  ·exact hw.elim
 ·rename_i k e hd;split at hw
  ·have:=hx.de.1;subst this;exact ee.pure H (hp _ (L.desc _ _ hd)) (.s rfl) hw
  ·rename_i n;split at hw
   ·rename_i kn es hl;obtain⟨Sm,hO⟩:=H.bN hl;cases hO with
    |map hb hg hlen hc bU=>
     rename_i b clock ev;cases hx with
     |mp bJ=>
      rw[hb]at bJ;cases bJ;have zS:dV h b=some (ev,clock):=by unfold dV;rw[hg]
      have hE:rL c ρ F h kn es ev:=⟨hlen,hc⟩;refine g9.CY (q:=.len b) (g9.same H (by simp[RQ.run,zS];rfl) (.s rfl) ?_ (.jK (.refl _) rfl hl (.inl hb) ⟨_,zS,hE.refl⟩)) (hp _ (L.desc _ _ hd)) (hq _ _ _ (L.desc _ _ hd) rfl);rw[←hlen];exact hw
   ·rename_i kn es hl;obtain⟨Sm,hO⟩:=H.bN hl;cases hO with
    |dY hb hg bV hc bU=>
     rename_i Sq b clock ev;cases hx with
     |mp bJ=>
      rw[hb]at bJ;cases bJ;have zS:dV h b=some (ev,clock):=by unfold dV;rw[hg]
      have hE:gG c ρ F h X.base kn Sq es ev:=hc;have hlen:es.length=ev.length:=by
       have key:∀{es:List (Value×TV)} {ev:List MapEntry} {S:Ft},gG c ρ F h X.base kn S es ev→es.length=ev.length:=by
        intro es ev S hE
        induction hE with
        |nil=>rfl
        |cons _ _ _ _ _ ih=>simp[ih]
       exact key hE
      refine g9.CY (q:=.len b) (g9.same H (by simp[RQ.run,zS];rfl) (.s rfl) ?_ (.jK (.refl _) rfl hl (.inl hb) ⟨_,zS,hE.refl fun e he t ht=>.inr (bV e he t ht)⟩)) (hp _ (L.desc _ _ hd)) (hq _ _ _ (L.desc _ _ hd) rfl);rw[←hlen];exact hw
   ·exact hw.elim
  ·exact hw.elim
 ·exact hw.elim
theorem gS (L:bR T E) (N:jA T F h) (S:c6 c ρ F h f af) {x:Operand} {l:List Operand} (j5:l.all (ph T)=true) (hm:x∈l):∃v,ev E af x=some v∧VR c ρ F h (kj T f x) v:=nV L N S (List.all_eq_true.1 j5 x hm)
theorem Zu (L:bR T E) (N:jA T F h) (S:c6 c ρ F h f af) {x:Option Operand} {l:List Operand} (j5:l.all (ph T)=true) (hm:∀y,x=some y→y∈l):∃v,mG E af x=some v∧NW c ρ F h (NM T f x) v:=by
 cases x with
 |none=>exact⟨none,rfl,.inl ⟨rfl,rfl⟩⟩
 |some y=>
  obtain⟨v,h1,h2⟩:=nV (E:=E) L N S (List.all_eq_true.1 j5 y (hm y rfl));exact⟨some v,by simp[mG,h1],.inr ⟨_,_,rfl,rfl,h2⟩⟩
theorem BO (L:bR T E) (H:Mem X ρ F o c h) {b:Builtin} {qt:Array Operand} {argTypes:Array TypeId} {args:List TV} {vs:List Value} {dst:Option Tmp} {ty:TypeId} {pos:String} {after:Array Edge} {guard:Option (Nat×Bool)}
 (hw:uK T b argTypes.toList args o c K) (hr:dh c ρ F h args vs) (he:C2 E af qt.toList=some vs):ee E X ρ F o c af h ⟨dst,.call ⟨.builtin b,qt,argTypes⟩,ty,pos,after,guard⟩ K:=by
 have hp:aB E af ⟨dst,.call ⟨.builtin b,qt,argTypes⟩,ty,pos,after,guard⟩=nH E b argTypes.toList vs:=by simp only[aB,he,Option.bind_some]
 have c9:aV E af ⟨dst,.call ⟨.builtin b,qt,argTypes⟩,ty,pos,after,guard⟩=none:=rfl;have Ut:cH E X.base af ⟨dst,.call ⟨.builtin b,qt,argTypes⟩,ty,pos,after,guard⟩ h=(tG E X.base h b argTypes.toList vs).bind fun r=>some (.val r.1,r.2):=by simp only[cH,he,Option.bind_some]
 have ft:b≠ .len→bt E af ⟨dst,.call ⟨.builtin b,qt,argTypes⟩,ty,pos,after,guard⟩=none:=fun hb=>by
  cases b<;>first|rfl |exact absurd rfl hb
 unfold uK at hw;split at hw
 ·rename_i t ts x xs wX;obtain⟨xv,m,rfl,h1,h2⟩:=hr.aH;refine Of L H hw h1 (fun d hd=>?_) (fun k e r hd hx=>?_)
  ·rw[hp,wX];simp only[nH,hd,Option.bind_some]
   try rfl
  ·subst hx;simp only[bt,wX,he,Option.bind_some,hd]
 ·rename_i st xt fl l wX;obtain⟨sv,m,rfl,h1,h2⟩:=hr.aH;obtain⟨xv,m',rfl,h3,h4⟩:=h2.aH;obtain rfl:=h4.bz;have hxv:=h3.de.1;subst hxv;refine BL L H hw h1 (by rw[hp,wX];rfl) (ft (by simp)) c9 fun v h' hh=>?_;rw[Ut,wX];show(match bq E X.base h st xt sv (.int .i64 l)with|some r=>some r|none=>gz E h st xt sv (.int .i64 l)).bind _=_;have Az:bq E X.base h st xt sv (.int .i64 l)=none:=by
   unfold bq;cases E.desc st with
   |none=>rfl
   |some sd=>cases E.desc xt with
    |none=>rfl
    |some xd=>
     cases sd<;>try rfl
     rename_i elem;simp only[Option.bind_some];cases E.size elem<;>try rfl
     cases E.bytes elem<;>try rfl
     cases E.zero elem<;>rfl
  rw[Az,hh];rfl
 ·rename_i st xt s x _ wX;obtain⟨sv,m,rfl,h1,h2⟩:=hr.aH;obtain⟨xv,m',rfl,h3,h4⟩:=h2.aH;obtain rfl:=h4.bz;refine DT L H hw h1 h3 (by rw[hp,wX];rfl) (ft (by simp)) c9 fun v h' hh=>?_;rw[Ut,wX];show(match bq E X.base h st xt sv xv with|some r=>some r|none=>gz E h st xt sv xv).bind _=_;rw[hh];rfl
 ·rename_i ts k x k' y;obtain⟨sv,m,rfl,h1,h2⟩:=hr.aH;obtain⟨xv,m',rfl,h3,h4⟩:=h2.aH;obtain rfl:=h4.bz;rw[h1.de.1,h3.de.1]at hp;exact ee.pure H (x:=.int k (if y>x then y else x)) (by rw[hp];rfl) (.s rfl) hw
 ·rename_i ts k x k' y;obtain⟨sv,m,rfl,h1,h2⟩:=hr.aH;obtain⟨xv,m',rfl,h3,h4⟩:=h2.aH;obtain rfl:=h4.bz;rw[h1.de.1,h3.de.1]at hp;exact ee.pure H (x:=.int k (if y<x then y else x)) (by rw[hp];rfl) (.s rfl) hw
 ·rename_i t ts fl wX;obtain⟨sv,m,rfl,h1,h2⟩:=hr.aH;obtain rfl:=h2.bz;split at hw
  ·rename_i e hd;have:sv= .slice none 0 0:=by
    cases h1 with
    |nil=>rfl
    |sl q1 q2 q3=>omega
   subst this;refine ee.pure H (x:=goInt 0) ?_ (.s rfl) hw;rw[hp,wX];simp only[nH,L.desc _ _ hd,Option.bind_some]
  ·exact hw.elim
 ·rename_i t ts m k wX;obtain⟨mv,m1,rfl,h1,h2⟩:=hr.aH;obtain⟨kv,m',rfl,h3,h4⟩:=h2.aH;obtain rfl:=h4.bz;refine DO L H hw h1 h3 (by rw[hp,wX];rfl) (ft (by simp)) c9 ?_;rw[Ut,wX];rfl
 ·rename_i t ts m i args wX;obtain⟨xv,m1,rfl,h1,h2⟩:=hr.aH;split at hw
  ·rename_i elem hd;split at hw
   ·rename_i zv z es hz hl;split at hw
    ·rename_i zs ib;split at hw
     ·rename_i hc;refine DP L H hd hz hl ib hc hw h1 (by rw[hp,wX];rfl) (ft (by simp)) c9 ?_;rw[Ut,wX];rfl
     ·exact hw.elim
    ·exact hw.elim
   ·exact hw.elim
  ·exact hw.elim
 ·rename_i t ts n args wX;obtain⟨mv,m1,rfl,h1,h2⟩:=hr.aH;split at hw
  ·rename_i d kn es hd hl;refine xK H hl (.inl ⟨_,rfl⟩) hw h1 (by rw[hp,wX];rfl) (ft (by simp)) c9 (by rw[L.desc _ _ hd];rfl) ?_ (t:=t);rw[Ut,wX];rfl
  ·rename_i d kn es op hd hl;refine xK H hl (.inr ⟨_,_,rfl⟩) hw h1 (by rw[hp,wX];rfl) (ft (by simp)) c9 (by rw[L.desc _ _ hd];rfl) ?_ (t:=t);rw[Ut,wX];rfl
  ·exact hw.elim
 ·exact hw.elim
theorem BP (s:ByteArray):(Be s).length=s.size:=by simp[Be]
theorem Kv {c:Nat} {ρ:Gh} {F:Nat→Prop} {h:ah}:∀{ns:List Int} {vs:List Value},dh c ρ F h (bA ns).flatten vs→vs=ns.map (Value.int .u8)
 |[],vs,H=>H.bz
 |n::ns,vs,H=>by
  obtain⟨v,lB,rfl,h1,h2⟩:=H.aH;rw[h1.de.1,Kv h2];rfl
theorem FH:∀ns:List Int,Jk (ns.map (Value.int .u8))=some ns
 |[]=>rfl
 |n::ns=>by simp only[List.map_cons,Jk,FH ns,Option.bind_some]
theorem BQ (L:bR T E) (H:Mem X ρ F o c h) {s d:TypeId} {x:TV} {xv:Value} (hw:uN T s d x o c K) (hx:VR c ρ F h x xv)
 (hp:aB E af p=oy E s d xv) (hq:bt E af p=none) (c9:aV E af p=none) (he:cH E X.base af p h=(oT E X.base h s d xv).bind fun r=>some (.val r.1,r.2)):ee E X ρ F o c af h p K:=by
 unfold uN at hw;split at hw
 ·rename_i v;have:=hx.de.1;subst this;split at hw
  ·rename_i str e hd;split at hw
   ·rename_i sd ed hs Zv;split at hw
    ·rename_i hu;have Ni:aB E af p=none:=by rw[hp];simp[oy,L.desc _ _ hs,L.desc _ _ hd]
     have E1:ER c ρ F h 1 (Be str) (eG str):=by
      refine⟨by simp[Be,eG],fun e he=>?_,fun e he t ht=>?_,fun i j e t v q1 q2 q3=>?_⟩
      ·simp only[Be,List.mem_map]at he;obtain⟨b,_,rfl⟩:=he;rfl
      ·simp only[Be,List.mem_map]at he;obtain⟨b,_,rfl⟩:=he;simp at ht;subst ht;rfl
      ·simp only[Be,List.getElem?_map,Option.map_eq_some_iff]at q1;obtain⟨b,q1,rfl⟩:=q1;cases j with
       |succ j=>simp at q2
       |zero=>
        simp at q2;subst q2;simp only[eG,List.getElem?_map,Nat.mul_one,Nat.add_zero,q1,Option.map_some,Option.some.injEq]at q3;subst q3;exact .s rfl
     obtain⟨M2,k2⟩:=H.zI E1 om;refine ee.cU (x:=.slice (some ⟨h.size,0,some 1⟩) str.size (str.size+1)) (h':=h.push (.cells (eG str) h.size h.size 0)) H Ni hq c9 (by rw[he];simp[oT,L.desc _ _ hs,L.desc _ _ hd,L.desc _ _ Zv,hu,bp,fresh]) ⟨M2,k2,by show h.size≤h.size+1;omega,fun _ hb=>hb,fun b cs hb hr=>(dH H.wf.le _ (H.Fo hb)).trans hr⟩ ?_ (fun m y hl hm=>?_) hw
     ·refine .tk om rfl (fun b z len hx=>?_) (fun z hx=>?_)
      ·rw[aD]at hx;cases hx;exact⟨str.size+1,by rw[BP];omega,by rw[BP]⟩
      ·rw[aD]at hx;cases hx
     ·have hmc:=H.lt hl;refine⟨⟨y,by rw[aC,if_neg (by simp only;omega)];exact hl⟩,by rw[aW _ _ om],fun b hb=>?_⟩;have:=H.vd hl hb;exact⟨by rw[ah.ak,if_neg om],fun cs hr=>by rw[dH H.wf.le _ this];exact hr⟩
    ·exact hw.elim
   ·exact hw.elim
  ·exact g7.CY H (qm hw fun x hx=>DJ L hx) hp
 ·split at hw
  ·rename_i z es Fz;split at hw
   ·rename_i e hd hs;split at hw
    ·rename_i ed Zv;split at hw
     ·rename_i hc;simp only[Bool.and_eq_true,Bool.or_eq_true,beq_iff]at hc;obtain⟨hu,hz⟩:=hc;obtain⟨ns,rfl,hK⟩:=hw;obtain⟨hlen,_,_,jD⟩:=ng H Fz (n:=1) (hz.imp id fun h=>⟨h,rfl⟩) (by simp) hx;obtain⟨a,cap,rfl⟩:∃a cap,xv= .slice a (bA ns).length cap:=by
       unfold kC at hlen;split at hlen
       ·cases hlen;exact⟨_,_,rfl⟩
       ·exfalso;unfold Vn at Fz;split at Fz
        ·cases hx with|tk _ h1=>simp[GZ]at h1
        ·cases hx
        ·cases Fz
       ·cases hlen
      have Ni:aB E af p=none:=by rw[hp];simp[oy,L.desc _ _ hs,L.desc _ _ hd]
      have Zw:oT E X.base h s d (.slice a (bA ns).length cap)=some (.string (strOf ns),h):=by
       simp only[oT,L.desc _ _ hs,L.desc _ _ hd,L.desc _ _ Zv,hu,Option.bind_some,bp,bG,beq_iff];split
       ·rename_i h0;have:ns=[]:=by simpa[bA]using h0
        subst this;rfl
       ·rename_i h0;rcases jD with h1|⟨new,h1,_,_,_,hV⟩
        ·rw[h1]at h0;simp at h0
        ·have e2:=Kv (ns:=ns) (vs:=new) (by simpa[cd]using hV);rw[h1,e2];simp only[Option.bind_some,FH]
      exact ee.cU H Ni hq c9 (by rw[he,Zw];rfl) (.refl H) (.s rfl) (.refl _) hK
     ·exact hw.elim
    ·exact hw.elim
   ·exact hw.elim
  ·exact hw.elim
theorem xL {base n len:Nat} {es:List (List TV)} (hlen:es.length=len):∀{ps:List (Nat×TV)} {pv:List (Nat×Value)} {op:List (Nat×List TV)} {cs:List Value},
 (ps.all fun p=>okV p.2&&Nat.beq (ax p.2).length n&&Nat.blt p.1 len)=true→EQ c ρ F h base n [] es op cs→NU c ρ F h ps pv→
 ∃cv,iQ (fun i=>some (i*n,n)) cs pv=some cv∧EQ c ρ F h base n [] es (RA ps op) cv
 |[],[],op,cs,_,hQ,_=>⟨cs,rfl,hQ⟩
 |[],_::_,_,_,_,_,h2=>h2.elim
 |_::_,[],_,_,_,_,h2=>h2.elim
 |q::ps,(k,x)::pv,op,cs,ha,hQ,h2=>by
  obtain⟨e0,hvx,h2⟩:=h2;obtain rfl:q.1=k:=e0;simp only[List.all_cons,Bool.and_eq_true,beq_iff,aI]at ha;obtain⟨⟨⟨FC,hqn⟩,hql⟩,ha⟩:=ha;have qn:=g8 hvx FC;obtain⟨c9,ib⟩:=qh hQ.each hQ.jb;have Kw:q.1<(cd es op).length:=by omega
  obtain⟨row,gm⟩:∃e,(cd es op)[q.1]? =some e:=⟨_,List.getElem?_eq_getElem Kw⟩;have hrl:=ib row (List.mem_of_getElem? gm);have hC:=hQ.cell;rw[←vf gm]at hC;obtain⟨S1,S2,S3,v1,v2,v3,e0,e1,a1,a2,a3⟩:=jz ib Kw hC;have e2:v1.length=q.1*n:=by
   have h1:=a1.len;have:=(eo ib gm).2;rw[Nat.add_mul]at this;rw[←h1,List.length_take];omega
  have e3:v2.length=n:=by rw[←a2.len];exact hrl
  have e4:cF v2 0 x.cells.toList=some x.cells.toList:=by
   obtain⟨r,hr⟩:=j4 (n:=0) (l:=v2) (xs:=x.cells.toList) (by rw[←qn.1];omega);rw[hr,jc hr];have:v2.length≤x.cells.toList.length:=by rw[←qn.1];omega
   rw[List.take_zero,List.drop_zero,List.nil_append,List.drop_eq_nil_of_le this,List.append_nil]
  have e5:=BI (v1:=v1) (v3:=v3) e4;rw[Nat.add_zero,e2,←e1]at e5;simp only[List.append_eq_nil_iff,List.nil_eq]at e0;obtain⟨rfl,rfl,rfl⟩:=e0;have hJ:=nT ib Kw a1 (cp.jx (base:=base) qn) a3;have hQ1:EQ c ρ F h base n [] es ((q.1,ax q.2)::op) (v1++(x.cells.toList++v3)):=by
   refine⟨?_,hQ.each,hQ.cl,fun p hp=>?_,hJ⟩
   ·have:=(cV e5).2.1;rw[this];exact hQ.len
   ·rcases List.mem_cons.1 hp with rfl |hp
    ·exact⟨om,hqn⟩
    ·exact hQ.jb p hp
  obtain⟨cv,g1,g2⟩:=xL hlen ha hQ1 h2;refine⟨cv,?_,g2⟩;have:x.cells.size=n:=by have:=qn.1;simp only[Array.length_toList]at this;omega
  simp[iQ,this,e5,bp,g1]
theorem Kx (L:bR T E) (NX:DC E X) (H:Mem X ρ F o c h) (S:c6 c ρ F h f af) (hw:Qf T (VC E) p.op f o c K):ee E X ρ F o c af h p K:=by
 obtain⟨dst,op,ty,pos,after,guard⟩:=p;have N:jA T F h:=(NX.now H).sub L;simp only at hw;unfold Qf at hw;split at hw
 ·exact hw.elim
 ·rename_i j5;cases op with
  |move x=>
   obtain⟨v,h1,h2⟩:=gS (E:=E) L N S j5 (x:=x) (by simp[Op.operands]);obtain⟨hK,_⟩:=dG hw;exact ee.pure H (x:=v) h1 h2 hK
  |assign x=>
   obtain⟨v,h1,h2⟩:=gS (E:=E) L N S j5 (x:=x) (by simp[Op.operands]);obtain⟨hK,_⟩:=dG hw;exact ee.pure H (x:=v) h1 h2 hK
  |pick q a b=>
   obtain⟨qv,h1,h2⟩:=gS (E:=E) L N S j5 (x:=q) (by simp[Op.operands]);obtain⟨av,h3,h4⟩:=gS (E:=E) L N S j5 (x:=a) (by simp[Op.operands]);obtain⟨bv,h5,h6⟩:=gS (E:=E) L N S j5 (x:=b) (by simp[Op.operands]);simp only at hw;split at hw
   ·rename_i qb he;rw[he]at h2;have:=h2.de.1;subst this;split at hw
    ·obtain⟨hK,_⟩:=dG hw;exact ee.pure H (x:=av) (by simp[aB,h1,h3,Av]) h4 hK
    ·obtain⟨hK,_⟩:=dG hw;exact ee.pure H (x:=bv) (by simp[aB,h1,h5,Av]) h6 hK
   ·exact hw.elim
  |alloc t=>
   simp only at hw;split at hw
   ·rename_i z hz;split at hw
    ·rename_i zs ib;obtain⟨iJ,mi⟩:=L.zero _ _ hz;exact rM H (fj mi ib) rfl rfl (by simp[aV,iJ]) hw
    ·exact hw.elim
   ·exact hw.elim
  |box t x=>
   obtain⟨v,h1,h2⟩:=gS (E:=E) L N S j5 (x:=x) (by simp[Op.operands]);simp only at hw;obtain⟨hK,bc⟩:=dG hw;have c9:aV E af ⟨dst,.box t x,ty,pos,after,guard⟩=some (.cells v.cells.toList,.ptr):=by simp[aV,h1]
   split at hK
   ·exact hK.elim
   ·exact hK.elim
   ·exact hK.elim
   ·exact hK.elim
   ·rename_i cs he;have qn:=g8 h2 (by rw[he];rfl);rw[he]at qn;exact rM H qn rfl rfl c9 hK
   ·rename_i n1 n2 n4 n5 n3;have sK:okV (kj T f x)=true:=by
     cases he:kj T f x with
     |j=>exact absurd he n1
     |dg cs=>exact absurd he (n2 cs)
     |sv a b=>exact absurd he (n4 a b)
     |pv a b=>exact absurd he (n5 a b)
     |_=>rfl
    have qn:=g8 h2 sK;have Zw:ax (kj T f x)=[kj T f x]:=by
     cases he:kj T f x with
     |agg cs=>exact absurd he (n3 cs)
     |_=>rfl
    rw[Zw]at qn;exact rM H qn rfl rfl c9 hK
  |build t ps=>
   obtain⟨pv,h1,h2⟩:=lQ (E:=E) L N S (l:=ps.toList) (by simpa[Op.operands]using j5);exact g7.CY H (Hg L hw h2) (by simp[aB,h1])
  |buildSlice t len ps=>
   obtain⟨pv,h1,h2⟩:=lQ (E:=E) L N S (l:=ps.toList) (by simpa[Op.operands]using j5);simp only at hw;unfold sL at hw;split at hw
   ·rename_i elem hd;split at hw
    ·rename_i n z hn hz;obtain⟨iJ,mi⟩:=L.zero _ _ hz;split at hw
     ·rename_i zs hc ib;simp only[Bool.and_eq_true,beq_iff,az,aI]at hc;obtain⟨⟨nK,I6⟩,T7⟩:=hc;split at hw
      ·rename_i es Nj Q5;have o4:=fj (c:=c) (ρ:=ρ) (F:=F) (h:=h) mi ib;have G7:zs.length=n:=by have:=o4.1;simp only[Array.length_toList]at this;omega
       obtain⟨F',cv,S',b1,b2,b3⟩:=xJ H Q5 (ER.replicate o4 G7 Nj len) h2;have Kc:es.length=len:=by rw[b3];simp
       refine FA H S' (cap:=len) b2 T7 om rfl rfl ?_ hw;simp only[aV,L.desc _ _ hd,Option.bind_some,h1,L.size _ _ hn,iJ,I6,az.2 nK,bp];rw[Kc];simp[b1]
      ·rename_i Nj Q5;split at hw
       ·rename_i kf;have o4:=fj (c:=c) (ρ:=ρ) (F:=F) (h:=h) mi ib;have G7:zs.length=n:=by have:=o4.1;simp only[Array.length_toList]at this;omega
        have hE:=ER.replicate o4 G7 Nj len
        have hQ0:EQ c ρ F h X.base n [] (List.replicate len zs) [] (aG z.cells.toList len):=
         ⟨hE.len,hE.each,fun e he t ht=>by
          have:=hE.fz e he t ht;unfold kM;split<;>first|rfl |exact this,by simp,cp.jx (fY hE.len hE.each hE.cell)⟩
        obtain⟨cv,g1,hQ⟩:=xL (by simp) kf hQ0 h2;obtain⟨M1,k1⟩:=H.Dx hQ T7;refine ee.alloc H (.refl H) (md:=.cells cv) (hd:=.slice n len len) rfl rfl ?_ M1 k1 (.tk om rfl (fun b z' len' hx=>?_) (fun z' hx=>?_)) hw
        ·simp only[aV,L.desc _ _ hd,Option.bind_some,h1,L.size _ _ hn,iJ,I6,az.2 nK,bp];simp[g1]
        ·rw[aD]at hx;cases hx;exact⟨len,by simp,by simp[oR.val]⟩
        ·rw[aD]at hx;cases hx
       ·exact hw.elim
      ·exact hw.elim
     ·exact hw.elim
    ·exact hw.elim
   ·exact hw.elim
  |load t a=>
   obtain⟨av,h1,h2⟩:=gS (E:=E) L N S j5 (x:=a) (by simp[Op.operands]);obtain⟨q,h3,h4⟩:=Kf L H hw h2;exact h4.CY rfl (by simp only[bt,h1,Option.bind_some];exact h3)
  |store t a v=>
   obtain⟨av,h1,h2⟩:=gS (E:=E) L N S j5 (x:=a) (by simp[Op.operands]);obtain⟨vv,h3,h4⟩:=gS (E:=E) L N S j5 (x:=v) (by simp[Op.operands]);exact Hl L H hw h2 h4 rfl rfl rfl (by simp only[cH,h1,h3,Option.bind_some];rfl)
  |nilCheck x=>
   obtain⟨v,h1,h2⟩:=gS (E:=E) L N S j5 (x:=x) (by simp[Op.operands]);simp only at hw;split at hw
   ·rename_i n q he;rw[he]at h2;cases h2 with
    |ptr hb=>exact ee.pure H (by simp[aB,h1,kD]) (.ptr hb) hw
   ·rename_i e q he;rw[he]at h2;cases h2 with
    |ep a1 a2 a3 a4 a5=>exact ee.pure H (by simp[aB,h1,kD]) (.ep a1 a2 a3 a4 a5) hw
   ·rename_i g a b he;rw[he]at h2;cases h2 with
    |cJ a1 a2 a3 a4=>exact ee.pure H (by simp[aB,h1,kD]) (.cJ a1 a2 a3 a4) hw
   ·exact hw.elim
  |binOp bop t x y t2=>
   obtain⟨av,h1,h2⟩:=gS (E:=E) L N S j5 (x:=x) (by simp[Op.operands]);obtain⟨bv,h3,h4⟩:=gS (E:=E) L N S j5 (x:=y) (by simp[Op.operands]);exact g7.CY H (NV L H hw h2 h4) (by simp[aB,h1,h3])
  |unOp uop t x=>
   obtain⟨v,h1,h2⟩:=gS (E:=E) L N S j5 (x:=x) (by simp[Op.operands]);simp only at hw;split at hw
   ·rename_i w he;split at hw
    ·rename_i hs;rw[he]at h2;have:=h2.de.1;subst this;exact g7.CY H (qm hw fun x hx=>hx) (by simp[aB,h1,hs,bp])
    ·exact hw.elim
   ·exact hw.elim
  |convert s d x=>
   obtain⟨v,h1,h2⟩:=gS (E:=E) L N S j5 (x:=x) (by simp[Op.operands]);exact BQ L H hw h2 (by simp[aB,h1]) rfl rfl (by simp[cH,h1])
  |makeInterface t x=>
   obtain⟨v,h1,h2⟩:=gS (E:=E) L N S j5 (x:=x) (by simp[Op.operands]);simp only at hw;split at hw
   ·exact hw.elim
   ·exact hw.elim
   ·rename_i d hd n1;split at hw
    ·exact hw.elim
    ·refine ee.pure H (x:=.iface t v) ?_ (.lr h2) hw;simp only[aB,L.desc _ _ n1,Option.bind_some,h1]
  |makeFunc fn first captured=>
   simp only at hw;split at hw
   ·rename_i g;have he:(first.toList.all (ph T)=true)∧(captured.toList.all (ph T)=true):=by
     simpa[Op.operands]using j5
    obtain⟨a,h1,h2⟩:=na (E:=E) L N S he.1;obtain⟨b,h3,h4⟩:=na (E:=E) L N S he.2;exact ee.pure H (x:=.func (.func g) a.toArray b.toArray) (by simp[aB,h1,h3]) (.cJ (by simpa using h2.1) (fun i t v q1 q2=>h2.2 i t v q1 (by simpa using q2)) (by simpa using h4.1) (fun i t v q1 q2=>h4.2 i t v q1 (by simpa using q2))) hw
   ·exact hw.elim
  |makeMap t r=>
   cases r with
   |some r=>exact hw.elim
   |none=>
    simp only at hw;split at hw
    ·split at hw
     ·split at hw
      ·exact N6 H _ rfl rfl rfl hw
      ·exact hw.elim
     ·exact hw.elim
    ·exact hw.elim
  |makeSlice t l k=>
   obtain⟨lv,h1,h2⟩:=gS (E:=E) L N S j5 (x:=l) (by simp[Op.operands]);obtain⟨kv,h3,h4⟩:=gS (E:=E) L N S j5 (x:=k) (by simp[Op.operands]);simp only at hw;unfold uL at hw;split at hw
   ·rename_i elem li ki hd YV hki;split at hw
    ·rename_i n bytes z hn CQ hz;obtain⟨iJ,mi⟩:=L.zero _ _ hz;split at hw
     ·rename_i zs hc ib;simp only[Bool.and_eq_true,beq_iff,aI]at hc;obtain⟨hc,DS⟩:=hc;split at hw
      ·rename_i Nj;obtain⟨⟨b1,b2,b30⟩,hK⟩:=hw;have b3:(ki+1)*((bytes:Int)+1)≤1099511627776:=by
        have h1:(ki.toNat+1)*(bytes+1)≤1099511627776:=size_le om DS;have h2:ki=(ki.toNat:Int):=by omega
        rw[h2];have h3:=Int.ofNat_le.2 h1;rw[Int.natCast_mul]at h3;exact h3
       have o4:=fj (c:=c) (ρ:=ρ) (F:=F) (h:=h) mi ib;have G7:zs.length=n:=by have:=o4.1;simp only[Array.length_toList]at this;omega
       have hE:=ER.replicate o4 G7 Nj li.toNat
       refine FA H (.refl H) (cap:=bif Nat.beq li.toNat ki.toNat then li.toNat else li.toNat+1) hE hc.2 (by simp only[List.length_replicate,bG];split<;>omega) rfl rfl ?_ hK;simp only[aV,L.desc _ _ hd,Option.bind_some,h1,h3,kR YV h2,kR hki h4,L.size _ _ hn,L.bytes _ _ CQ,iJ,hc.1,bp];simp[b1,b2,b3]
      ·exact hw.elim
     ·exact hw.elim
    ·exact hw.elim
   ·exact hw.elim
  |slice t x lo hi mx=>
   obtain⟨xv,h1,h2⟩:=gS (E:=E) L N S j5 (x:=x) (by simp[Op.operands]);obtain⟨u4,h3,h4⟩:=Zu (E:=E) L N S j5 (x:=lo) (fun y e=>by subst e;simp[Op.operands]);obtain⟨hiv,h5,h6⟩:=Zu (E:=E) L N S j5 (x:=hi) (fun y e=>by subst e;simp[Op.operands]);obtain⟨Nm,h7,h8⟩:=Zu (E:=E) L N S j5 (x:=mx) (fun y e=>by subst e;simp[Op.operands]);exact(He L H hw h2 h4 h6 h8).CY H (by simp[aB,h1,h3,h5,h7])
  |fieldAddr s x fd=>
   obtain⟨v,h1,h2⟩:=gS (E:=E) L N S j5 (x:=x) (by simp[Op.operands]);exact g7.CY H (wR L H hw h2) (by simp only[aB,h1,Option.bind_some];rfl)
  |field t x fd=>
   obtain⟨v,h1,h2⟩:=gS (E:=E) L N S j5 (x:=x) (by simp[Op.operands]);exact g7.CY H (Hb L hw h2) (by simp only[aB,h1,Option.bind_some];rfl)
  |indexAddr t x i=>
   obtain⟨v,h1,h2⟩:=gS (E:=E) L N S j5 (x:=x) (by simp[Op.operands]);obtain⟨iv,h3,h4⟩:=gS (E:=E) L N S j5 (x:=i) (by simp[Op.operands]);exact g7.CY H (wT L H hw h2 h4) (by simp[aB,h1,h3])
  |index t x i=>
   obtain⟨v,h1,h2⟩:=gS (E:=E) L N S j5 (x:=x) (by simp[Op.operands]);obtain⟨iv,h3,h4⟩:=gS (E:=E) L N S j5 (x:=i) (by simp[Op.operands]);exact g7.CY H (Hc L hw h2 h4) (by simp[aB,h1,h3])
  |lookup t x i ok=>
   obtain⟨v,h1,h2⟩:=gS (E:=E) L N S j5 (x:=x) (by simp[Op.operands]);obtain⟨iv,h3,h4⟩:=gS (E:=E) L N S j5 (x:=i) (by simp[Op.operands]);rcases DL L H hw h2 h4 with⟨rfl,R⟩|⟨r,rfl,q,hq,R⟩
   ·exact g7.CY H R (by simp only[aB,h1,h3,Option.bind_some];cases E.desc t with|none=>rfl |some d=>cases d<;>rfl)
   ·refine R.CY ?_ (by simp only[bt,h1,h3,Option.bind_some];exact hq);simp only[aB,h1,h3,Option.bind_some];cases E.desc t with
    |none=>rfl
    |some d=>cases d<;>rfl
  |mapUpdate t m k v=>
   obtain⟨mv,h1,h2⟩:=gS (E:=E) L N S j5 (x:=m) (by simp[Op.operands]);obtain⟨kv,h3,h4⟩:=gS (E:=E) L N S j5 (x:=k) (by simp[Op.operands]);obtain⟨vv,h5,h6⟩:=gS (E:=E) L N S j5 (x:=v) (by simp[Op.operands]);exact wW L H hw h2 h4 h6 rfl rfl rfl (by simp only[cH,h1,h3,h5,Option.bind_some];rfl)
  |extract t i=>
   obtain⟨v,h1,h2⟩:=gS (E:=E) L N S j5 (x:=t) (by simp[Op.operands]);simp only at hw;split at hw
   ·rename_i vs he;rw[he]at h2;obtain⟨a,rfl,h3⟩:=h2.qe;split at hw
    ·rename_i w hi;obtain⟨hK,_⟩:=dG hw;have bj:=(List.getElem?_eq_some_iff.1 hi).1;have wY:i<a.toList.length:=by rw[←h3.1];exact bj
     obtain⟨x,hx⟩:∃x,a.toList[i]? =some x:=⟨_,List.getElem?_eq_getElem wY⟩;exact ee.pure H (x:=x) (by simp only[aB,h1,Option.bind_some];exact hx) (h3.2 i w x hi hx) hK
    ·exact hw.elim
   ·exact hw.elim
  |call q=>
   obtain⟨callee,qt,argTypes⟩:=q;simp only at hw;split at hw
   ·rename_i b;have Zx:qt.toList.all (ph T)=true:=by simpa[Op.operands,Call.operands]using j5
    obtain⟨vs,h1,h2⟩:=na (E:=E) L N S Zx;exact BO L H hw h2 h1
   ·rename_i g;have he:ph T g=true∧qt.toList.all (ph T)=true:=by simpa[Op.operands,Call.operands]using j5
    obtain⟨gv,h1,h2⟩:=nV (E:=E) L N S he.1;obtain⟨vs,h3,h4⟩:=na (E:=E) L N S he.2;split at hw
    ·rename_i g' a b hg;rw[hg]at h2;cases h2 with
     |cJ hs ha ht hk=>
      rename_i a' k';have uh:dh c ρ F h a a'.toList:=⟨by simpa using hs,fun i t v q1 q2=>ha i t v q1 (by simpa using q2)⟩;have nN:dh c ρ F h b k'.toList:=⟨by simpa using ht,fun i t v q1 q2=>hk i t v q1 (by simpa using q2)⟩;refine Kt NX H (L.still g') hw ((uh.append h4).append nN) rfl rfl rfl ?_;simp only[cH,h3,h1,Option.bind_some]
    ·exact hw.elim
   ·exact hw.elim
  |_=>exact hw.elim
end
def zX (h:ah) (b:Nat):Prop:=(∃cs,h.rd b=some cs)∨∃ob,h.get b=some ob∧∀cs f t th,ob≠ .cells cs f t th
theorem Mem.live {X:Cx} {ρ:Gh} {F:Nat→Prop} {o:Ob} {c:Nat} {h:ah} (H:Mem X ρ F o c h) {m:Nat} {y:TO} {b:Nat} (hl:look o m=some y) (hb:xD ρ m b):zX h b:=by
 obtain⟨Sm,hO⟩:=H.bN hl;cases hO with
 |cells h1 hg ht hc=>
  rcases hb with hb|⟨z,l,hb⟩<;>rw[h1]at hb<;>cases hb
  exact .inl (⟨_,dq (bu hg hg) ht (by unfold ah.cellsOf;rw[hg])⟩)
 |map h1 hg=>rcases hb with hb|⟨z,l,hb⟩<;>rw[h1]at hb<;>cases hb;exact .inr ⟨_,hg,by simp⟩
 |dY h1 hg=>rcases hb with hb|⟨z,l,hb⟩<;>rw[h1]at hb<;>cases hb;exact .inr ⟨_,hg,by simp⟩
 |fM h1 hg=>rcases hb with hb|⟨z,l,hb⟩<;>rw[h1]at hb<;>cases hb;exact .inr ⟨_,hg,by simp⟩
 |nil h1=>rcases hb with hb|⟨z',l,hb⟩<;>rw[h1]at hb<;>cases hb
 |fD h1=>rcases hb with hb|⟨z',l,hb⟩<;>rw[h1]at hb<;>cases hb
 |arr h1 hg hf ht=>rcases hb with hb|⟨z',l,hb⟩<;>rw[h1]at hb<;>cases hb;exact .inl (⟨_,dq hf ht (by unfold ah.cellsOf;rw[hg])⟩)
 |bZ h1 hg hf ht=>rcases hb with hb|⟨z',l,hb⟩<;>rw[h1]at hb<;>cases hb;exact .inl (⟨_,dq hf ht (by unfold ah.cellsOf;rw[hg])⟩)
theorem vk:∀{o:Ob} {m:Nat},m∈Uh o→∃y,look o m=some y
 |[],m,h=>by simp[Uh]at h
 |p::o,m,h=>by
  rw[aC];by_cases e:p.1=m
  ·exact⟨p.2,by simp[e]⟩
  ·rw[if_neg e];simp only[Uh,List.mem_cons]at h;rcases h with h|h
   ·exact absurd h.symm e
   ·exact vk h
def Og:TV→Bool
 | .mp _=>true
 | .ptr _ _=>true
 |_=>false
def lT (ρ:Gh) (o:Ob) (h:ah):Prop:=∀n cs p v,look o n=some (.cells cs)→cs[p]? =some v→Og v=true→∃b x,ρ n=some (.cX b)∧ai h b p 1=some [x]∧jB ρ v x
theorem Mem.zY {X:Cx} {ρ:Gh} {F:Nat→Prop} {o:Ob} {c:Nat} {h:ah} (H:Mem X ρ F o c h):lT ρ o h:=by
 intro n cs p v hl hp hv;obtain⟨Sm,hO⟩:=H.bN hl;cases hO with
 |cells hb hg ht hc=>
  rename_i S b aF cv;obtain⟨S1,S2,S3,_,a1,a2,a3⟩:=hc.part p 1;have bj:=(List.getElem?_eq_some_iff.1 hp).1;have e1:(cs.drop p).take 1=[v]:=by
   rw[List.drop_eq_getElem_cons bj,List.take_succ_cons,List.take_zero];rw[(List.getElem?_eq_some_iff.1 hp).2]
  rw[e1]at a2;have hV:=a2.Uk (fun t v hv hf=>hv.dm hf) (by cases v<;>first|rfl |simp[Og]at hv);obtain⟨x,m1,e2,hx,AN⟩:=hV.1.aH;obtain rfl:=AN.bz;have hlen:=hc.len;have ft:=dq (bu hg hg) ht (au hg);refine⟨b,x,hb,?_,?_⟩
  ·unfold ai;rw[ft];simp only[Option.bind_some,aM];exact⟨by rw[List.length_drop];omega,e2.symm⟩
  ·cases v with
   |mp k=>cases hx with|mp h1=>exact .inl ⟨_,_,rfl,h1,rfl⟩
   |ptr k q=>cases hx with|ptr h1=>exact .inr ⟨_,_,_,rfl,h1,rfl⟩
   |_=>simp[Og]at hv
inductive rO (oF:Ob):Gh→(Nat→Prop)→Ob→ah→List VN→List dD→Prop
 |nil {ρ:Gh} {F:Nat→Prop} {h:ah} (bV:lT ρ oF h):rO oF ρ F oF h [] []
 |cons {ρ ρ':Gh} {F F':Nat→Prop} {o o':Ob} {h h':ah} {l:VL} {e:dD} {ls:List VN} {es:List dD} (hl:eU ρ F o h ρ' o' h' l e) (hw:Wf h) (hs:h.size≤h'.size) (hF:∀b,F b→F' b) (cE:∀b cs,F b→h.rd b=some cs→h'.rd b=some cs)
  (Oh:∀m y b,look o m=some y→xD ρ m b→zX h b) (oK:∀k b,ρ k=some (.cX b)→ρ' k=some (.cX b)) (bV:lT ρ o h) (hr:rO oF ρ' F' o' h' ls es):rO oF ρ F o h ((l,o)::ls) (e::es)
theorem rO.next {oF:Ob} {ρ:Gh} {F:Nat→Prop} {o:Ob} {h:ah} {ls:List VN} {es:List dD} (H:rO oF ρ F o h ls es):Fl oF ls=o∧lT ρ o h:=by
 cases H with
 |nil bV=>exact⟨rfl,bV⟩
 |cons _ _ _ _ _ _ _ bV _=>exact⟨rfl,bV⟩
theorem tT {h:ah} (W:Wf h) (q:RQ):oU h q=true:=by
 unfold oU;rw[bG];split
 ·rename_i hb;split
  ·rename_i f t th hg;rw[aI]at hb ⊢;have:=W.le _ _ _ _ _ hg;omega
  ·rfl
 ·rfl
theorem vl {h:ah} (W:Wf h) {q:RQ} (hn:jY q h):q.cX<h.size:=by
 cases q with
 |cells a b o n=>
  obtain⟨l,h1,_⟩:=hn;unfold ai at h1;simp only[Option.bind_eq_some_iff]at h1;obtain⟨cs,h2,_⟩:=h1;obtain⟨f,t,th,hg⟩:=uP h2;exact W.lt hg
 |look r kd k z ok=>
  obtain⟨m,h1,_⟩:=hn;unfold dV at h1;split at h1
  ·rename_i hg;exact W.lt hg
  ·cases h1
 |len r=>
  obtain⟨m,h1,_⟩:=hn;unfold dV at h1;split at h1
  ·rename_i hg;exact W.lt hg
  ·cases h1
theorem hH {h h':ah} {q:RQ} (hn:jY q h) (hg:(∃a b o n,q= .cells a b o n)∨h'.get q.cX=h.get q.cX) (hr:∀cs,h.rd q.cX=some cs→h'.rd q.cX=some cs):jY q h'∧eP h h' q=true:=by
 cases q with
 |cells a b o n=>
  obtain⟨l,h1,h2⟩:=hn;have h3:ai h' b o n=some l:=by
   unfold ai at h1 ⊢;simp only[Option.bind_eq_some_iff]at h1 ⊢;obtain⟨cs,h4,h5⟩:=h1;exact⟨cs,hr cs h4,h5⟩
  refine⟨⟨l,h3,h2⟩,?_⟩;unfold eP;rw[Bool.or_eq_true];left;unfold jQ;rw[bG];split
  ·simp only[h1,h3,h2]
  ·rfl
 |look r kd k z ok=>
  obtain⟨m,h1,h2⟩:=hn;have jl:h'.get r=h.get r:=by
   rcases hg with⟨a,b,o,n,e⟩|hg
   ·cases e
   ·exact hg
  have h3:dV h' r=some m:=by unfold dV at h1 ⊢;rw[jl];exact h1
  refine⟨⟨m,h3,h2⟩,?_⟩;unfold eP;rw[Bool.or_eq_true];left;unfold jQ;rw[bG];split
  ·simp only[h1,h3,h2]
  ·rfl
 |len r=>
  obtain⟨m,h1,h2⟩:=hn;have jl:h'.get r=h.get r:=by
   rcases hg with⟨a,b,o,n,e⟩|hg
   ·cases e
   ·exact hg
  have h3:dV h' r=some m:=by unfold dV at h1 ⊢;rw[jl];exact h1
  refine⟨⟨m,h3,h2⟩,?_⟩;unfold eP;rw[Bool.or_eq_true];left;unfold jQ;rw[bG];split
  ·simp only[h1,h3,h2]
  ·rfl
theorem fZ (h:ah) (q:RQ):eP h h q=true:=by
 unfold eP;rw[Bool.or_eq_true];exact .inr (decide_eq_true (inst:=Classical.propDecidable _) rfl)
section
variable {bs:List Nat} {i:Nat} {oF:Ob}
theorem qu:∀{ls:List VN} {j:Nat},eQ bs oF j ls=true→∀l∈ls,l.1≠ .bad
 |[],_,_,l,hl=>by simp at hl
 |x::ls,j,hd,l,hl=>by
  have key:eQ bs oF (j+1) ls=true∧x.1≠ .bad:=by
   obtain⟨x,nm⟩:=x;cases x<;>simp only[eQ,Bool.and_eq_true]at hd
   ·exact⟨hd,by simp⟩
   ·exact⟨hd,by simp⟩
   ·exact⟨hd,by simp⟩
   ·exact⟨hd.2,by simp⟩
   ·exact⟨hd.2,by simp⟩
   ·exact⟨hd.2,by simp⟩
   ·exact⟨hd.2,by simp⟩
   ·exact⟨hd.2,by simp⟩
   ·cases hd
  rcases List.mem_cons.1 hl with rfl |h1
  ·exact key.2
  ·exact qu key.1 l h1
theorem Qp {q:RQ} (hc:∃a b o n,q= .cells a b o n) {ud:ah}:∀{ls:List VN} {es:List dD} {ρ:Gh} {F:Nat→Prop} {o:Ob} {h:ah} {j:Nat},rO oF ρ F o h ls es→(∀l∈ls,l.1≠ .bad)→F q.cX→jY q h→bO bs i (.rd q ud) j es=true
 |_,_,ρ,F,_,h,j,.nil _,_,_,_=>rfl
 |_,_,ρ,F,o,h,j,.cons (h':=h') (l:=l) (e:=e) hl hw hs hF cE Oh oK bV hr,mD,V6,hn=>by
  obtain⟨k1,k2⟩:=hH (h':=h') hn (.inl hc) (fun cs=>cE _ cs V6);have ih:=Qp hc (ud:=ud) (j:=j+1) hr (fun l hl=>mD l (List.mem_cons_of_mem _ hl)) (hF _ V6) k1;simp only[bO,Bool.and_eq_true];refine⟨?_,ih⟩;cases hl with
  |pure=>rfl
  |alloc=>exact tT hw q
  |Ff=>rfl
  |jK=>rfl
  |wN=>rfl
  |cU=>simp[aN,k2]
  |mu hr hh=>subst hh;simp[aN,fZ]
  |mw=>simp[aN,k2]
  |bad=>exact absurd rfl (mD _ List.mem_cons_self)
theorem nh {q:RQ} {n:Nat} {ud:ah}:∀{ls:List VN} {es:List dD} {ρ:Gh} {F:Nat→Prop} {o:Ob} {h:ah} {j:Nat} {dC:Bool},rO oF ρ F o h ls es→(∀l∈ls,l.1≠ .bad)→mX bs i n j ls dC=true→
 (dC=false→(∃y,look o n=some y)∧xD ρ n q.cX∧jY q h)→bO bs i (.rd q ud) j es=true
 |_,_,ρ,F,_,h,j,dC,.nil _,_,_,_=>rfl
 |_,_,ρ,F,o,h,j,dC,.cons (ρ':=ρ') (o':=o') (h':=h') (l:=l) (e:=e) (ls:=ls) hl hw hs hF cE Oh oK bV hr,mD,hp,ht=>by
  have cq:∀l∈ls,l.1≠ .bad:=fun l hl=>mD l (List.mem_cons_of_mem _ hl)
  -- an operation that leaves the object alone
  have quiet:∀ns,Raw ρ o h ρ' o' h' ns→n∉ns→dC=false→((∃y,look o' n=some y)∧xD ρ' n q.cX∧jY q h')∧eP h h' q=true:=by
   intro ns bo y9 hd;obtain⟨⟨y,hy⟩,Zy,hn⟩:=ht hd;obtain⟨⟨y',r1⟩,r2,r3⟩:=bo n y hy y9;obtain⟨r4,r5⟩:=r3 _ Zy;obtain⟨k1,k2⟩:=hH hn (.inr r4) r5;exact⟨⟨⟨y',r1⟩,by unfold xD at Zy ⊢;rw[r2];exact Zy,k1⟩,k2⟩
  simp only[bO,Bool.and_eq_true];cases hl with
  |pure bo=>exact⟨rfl,nh hr cq hp fun hd=>(quiet _ bo (by simp) hd).1⟩
  |alloc bo=>exact⟨tT hw q,nh hr cq hp fun hd=>(quiet _ bo (by simp) hd).1⟩
  |Ff bo=>exact⟨rfl,nh hr cq hp fun hd=>(quiet _ bo (by simp) hd).1⟩
  |jK bo=>exact⟨rfl,nh hr cq hp fun hd=>(quiet _ bo (by simp) hd).1⟩
  |wN bo=>exact⟨rfl,nh hr cq hp fun hd=>(quiet _ bo (by simp) hd).1⟩
  |cU bo=>
   rename_i ns;simp only[mX]at hp;split at hp
   ·rename_i hc;simp only[Bool.and_eq_true]at hp;exact⟨by simp[aN,hp.1],nh hr cq hp.2 fun hd=>by cases hd⟩
   ·rename_i hc;have hd:dC=false:=by cases dC<;>simp_all
    have y9:n∉ns:=by subst hd;simpa using hc
    obtain⟨q1,q2⟩:=quiet _ bo y9 hd;exact⟨by simp[aN,q2],nh hr cq hp fun _=>q1⟩
  |mu bo hh=>
   rename_i ns;subst hh;simp only[mX]at hp;refine⟨by simp[aN,fZ],nh hr cq hp fun hd=>?_⟩;simp only[Bool.or_eq_false_iff]at hd;exact(quiet _ bo (by simpa using hd.2) hd.1).1
  |mw bo=>
   simp only[mX]at hp;split at hp
   ·simp only[Bool.and_eq_true]at hp;exact⟨by simp[aN,hp.1],nh hr cq hp.2 fun hd=>by cases hd⟩
   ·obtain⟨q1,q2⟩:=quiet _ bo (by simp) rfl;exact⟨by simp[aN,q2],nh hr cq hp fun _=>q1⟩
  |bad=>exact absurd rfl (mD _ List.mem_cons_self)
theorem jB.bd {ρ ρ':Gh} {v:TV} {x:Value} (H:jB ρ v x) (hk:∀k b,ρ k=some (.cX b)→ρ' k=some (.cX b)):jB ρ' v x:=by
 rcases H with⟨k,b,h1,h2,h3⟩|⟨k,q,b,h1,h2,h3⟩
 ·exact .inl ⟨k,b,h1,hk _ _ h2,h3⟩
 ·exact .inr ⟨k,q,b,h1,hk _ _ h2,h3⟩
theorem jB.uniq {ρ:Gh} {v:TV} {x y:Value} (H:jB ρ v x) (K:jB ρ v y):x=y:=by
 rcases H with⟨k,b,rfl,h2,rfl⟩|⟨k,q,b,rfl,h2,rfl⟩<;>rcases K with⟨k',b',e,k2,rfl⟩|⟨k',q',b',e,k2,rfl⟩<;>cases e<;>rw[h2]at k2<;>cases k2<;>rfl
theorem jB.Aw {ρ:Gh} {v:TV} {x:Value} (H:jB ρ v x):fw [x] [x]=true∧Og v=true:=by
 rcases H with⟨k,b,rfl,h2,rfl⟩|⟨k,q,b,rfl,h2,rfl⟩<;>exact⟨by simp[fw,iq],rfl⟩
theorem xM {v w:TV} (h:zF v w=true):w=v:=by
 cases v<;>cases w<;>simp[zF]at h
 ·obtain⟨rfl,rfl⟩:=h;rfl
 ·subst h;rfl
theorem hY {n p b:Nat} {v:TV} {x:Value} {ud:ah}:∀{ls:List VN} {es:List dD} {ρ:Gh} {F:Nat→Prop} {o:Ob} {h:ah} {j:Nat} {dC:Bool},rO oF ρ F o h ls es→(∀l∈ls,l.1≠ .bad)→kN bs i n p v oF j ls dC=true→
 (dC=false→(∃y,look o n=some y)∧ρ n=some (.cX b)∧ai h b p 1=some [x]∧jB ρ v x)→bO bs i (.rd (.cells false b p 1) ud) j es=true
 |_,_,ρ,F,_,h,j,dC,.nil _,_,_,_=>rfl
 |_,_,ρ,F,o,h,j,dC,.cons (ρ':=ρ') (o':=o') (h':=h') (l:=l) (e:=e) (ls:=ls) hl hw hs hF cE Oh oK bV hr,mD,hp,ht=>by
  have cq:∀l∈ls,l.1≠ .bad:=fun l hl=>mD l (List.mem_cons_of_mem _ hl);have same:∀{h1:ah},dC=false→ai h1 b p 1=some [x]→eP h h1 (.cells false b p 1)=true:=by
   intro h1 hd h2;obtain⟨_,_,h3,h4⟩:=ht hd;unfold eP;rw[Bool.or_eq_true];left;unfold jQ;rw[bG];split
   ·simp only[h3,h2,h4.Aw.1]
   ·rfl
  have quiet:∀ns,Raw ρ o h ρ' o' h' ns→n∉ns→dC=false→(∃y,look o' n=some y)∧ρ' n=some (.cX b)∧ai h' b p 1=some [x]∧jB ρ' v x:=by
   intro ns bo y9 hd;obtain⟨⟨y,hy⟩,hb,ft,hx⟩:=ht hd;obtain⟨⟨y',r1⟩,r2,r3⟩:=bo n y hy y9;obtain⟨r4,r5⟩:=r3 _ (.inl hb);refine⟨⟨y',r1⟩,oK _ _ hb,?_,hx.bd oK⟩;unfold ai at ft ⊢;simp only[Option.bind_eq_some_iff]at ft ⊢;obtain⟨cs,h4,h5⟩:=ft;exact⟨cs,r5 cs h4,h5⟩
  simp only[bO,Bool.and_eq_true];cases hl with
  |pure bo=>exact⟨rfl,hY hr cq hp fun hd=>quiet _ bo (by simp) hd⟩
  |alloc bo=>exact⟨tT hw _,hY hr cq hp fun hd=>quiet _ bo (by simp) hd⟩
  |Ff bo=>exact⟨rfl,hY hr cq hp fun hd=>quiet _ bo (by simp) hd⟩
  |jK bo=>exact⟨rfl,hY hr cq hp fun hd=>quiet _ bo (by simp) hd⟩
  |wN bo=>exact⟨rfl,hY hr cq hp fun hd=>quiet _ bo (by simp) hd⟩
  |cU bo=>
   rename_i ns;simp only[kN]at hp;split at hp
   ·simp only[Bool.and_eq_true]at hp;exact⟨by simp[aN,hp.1],hY (x:=x) hr cq hp.2 fun hd=>by cases hd⟩
   ·split at hp
    ·rename_i hc;have y9:n∉ns:=by simpa using hc
     have q1:=quiet _ bo y9 rfl;exact⟨by simp[aN,same rfl q1.2.2.1],hY hr cq hp fun _=>q1⟩
    ·split at hp
     ·rename_i R8;obtain⟨e1,e2⟩:=hr.next;rw[e1]at R8;unfold mY at R8;split at R8
      ·rename_i cs ui;split at R8
       ·rename_i w VY;obtain rfl:=xM R8;obtain⟨_,hb,_,hx⟩:=ht rfl;obtain⟨b',x',k1,k2,k3⟩:=e2 n cs p _ ui VY hx.Aw.2;rw[oK _ _ hb]at k1;cases k1;obtain rfl:=(hx.bd oK).uniq k3;exact⟨by simp[aN,same rfl k2],hY hr cq hp fun _=>⟨⟨_,ui⟩,oK _ _ hb,k2,k3⟩⟩
       ·cases R8
      ·cases R8
     ·simp only[Bool.and_eq_true]at hp;exact⟨by simp[aN,hp.1],hY (x:=x) hr cq hp.2 fun hd=>by cases hd⟩
  |mu bo hh=>
   rename_i ns;subst hh;simp only[kN]at hp;refine⟨by simp[aN,fZ],hY (x:=x) hr cq hp fun hd=>?_⟩;simp only[Bool.or_eq_false_iff]at hd;exact quiet _ bo (by simpa using hd.2) hd.1
  |mw bo=>
   simp only[kN]at hp;split at hp
   ·simp only[Bool.and_eq_true]at hp;exact⟨by simp[aN,hp.1],hY (x:=x) hr cq hp.2 fun hd=>by cases hd⟩
   ·have q1:=quiet _ bo (by simp) rfl;exact⟨by simp[aN,same rfl q1.2.2.1],hY hr cq hp fun _=>q1⟩
  |bad=>exact absurd rfl (mD _ List.mem_cons_self)
def vm (ρ:Gh) (ob oa:Ob) (g g':ah):Prop:=∀m p v,mY ob m p v=true→mY oa m p v=true→∃b x,ρ m=some (.cX b)∧ai g b p 1=some [x]∧ai g' b p 1=some [x]∧jB ρ v x
theorem vm.bd {ρ ρ':Gh} {ob oa:Ob} {g g':ah} (H:vm ρ ob oa g g') (oK:∀k b,ρ k=some (.cX b)→ρ' k=some (.cX b)):vm ρ' ob oa g g':=by
 intro m p v h1 h2;obtain⟨b,x,k1,k2,k3,k4⟩:=H m p v h1 h2;exact⟨b,x,oK _ _ k1,k2,k3,k4.bd oK⟩
theorem vn {ρ:Gh} {o:Ob} {h:ah} {m p:Nat} {v:TV} (H:lT ρ o h) (hc:mY o m p v=true):∃b x,ρ m=some (.cX b)∧ai h b p 1=some [x]∧jB ρ v x:=by
 unfold mY at hc;split at hc
 ·rename_i cs ui;split at hc
  ·rename_i w VY;obtain rfl:=xM hc;exact H m cs p _ ui VY (by cases w<;>first|rfl |simp[zF]at hc)
  ·cases hc
 ·cases hc
theorem Ky {ρ ρ':Gh} {ob oa:Ob} {g g':ah} (H:lT ρ ob g) (H':lT ρ' oa g') (oK:∀k b,ρ k=some (.cX b)→ρ' k=some (.cX b)):vm ρ' ob oa g g':=by
 intro m p v h1 h2;obtain⟨b,x,k1,k2,k3⟩:=vn H h1;obtain⟨b',x',l1,l2,l3⟩:=vn H' h2;rw[oK _ _ k1]at l1;cases l1;obtain rfl:=(k3.bd oK).uniq l3;exact⟨b,x,oK _ _ k1,k2,l2,l3⟩
theorem il {g g':ah} {nm:List Nat} {ob oa:Ob}:∀{ls:List VN} {es:List dD} {ρ:Gh} {F:Nat→Prop} {o:Ob} {h:ah} {uO:List Nat} {j:Nat},rO oF ρ F o h ls es→(∀l∈ls,l.1≠ .bad)→iV bs i nm ob oa uO j ls=true→vm ρ ob oa g g'→
 (∀m∈nm,m∉uO→(∃y,look o m=some y)∧∀b,xD ρ m b→zX g b∧g'.get b=g.get b∧(∀cs,g.rd b=some cs→g'.rd b=some cs)∧h.get b=g.get b∧(∀cs,g.rd b=some cs→h.rd b=some cs))→bO bs i (.cU g g') j es=true
 |_,_,ρ,F,_,h,uO,j,.nil _,_,_,_,_=>rfl
 |_,_,ρ,F,o,h,uO,j,.cons (ρ':=ρ') (o':=o') (h':=h') (l:=l) (e:=e) (ls:=ls) hl hw hs hF cE Oh oK bV hr,mD,hp,hB,ht=>by
  have Qq:=hB.bd oK;have cq:∀l∈ls,l.1≠ .bad:=fun l hl=>mD l (List.mem_cons_of_mem _ hl);have next:∀(ms R9:List Nat),Raw ρ o h ρ' o' h' ms→(∀m,m∉R9→m∉uO∧m∉ms)→∀m∈nm,m∉R9→(∃y,look o' m=some y)∧∀b,xD ρ' m b→zX g b∧g'.get b=g.get b∧(∀cs,g.rd b=some cs→g'.rd b=some cs)∧h'.get b=g.get b∧(∀cs,g.rd b=some cs→h'.rd b=some cs):=by
   intro ms R9 bo iu m hm Oi;obtain⟨q1,q2⟩:=iu m Oi;obtain⟨⟨y,hy⟩,hb⟩:=ht m hm q1;obtain⟨⟨y',r1⟩,r2,r3⟩:=bo m y hy q2;refine⟨⟨y',r1⟩,fun b hab=>?_⟩;have V7:xD ρ m b:=by unfold xD at hab ⊢;rw[←r2];exact hab
   obtain⟨a1,a2,a3,a4,a5⟩:=hb b V7;obtain⟨b1,b2⟩:=r3 b V7;exact⟨a1,a2,a3,b1.trans a4,fun cs oz=>b2 cs (a5 cs oz)⟩
  simp only[bO,Bool.and_eq_true];cases hl with
  |pure bo=>exact⟨rfl,il hr cq hp Qq (next _ _ bo fun m hm=>⟨hm,by simp⟩)⟩
  |alloc bo=>exact⟨rfl,il hr cq hp Qq (next _ _ bo fun m hm=>⟨hm,by simp⟩)⟩
  |Ff bo=>simp only[iV,Bool.and_eq_true]at hp;exact⟨by simp[aN,hp.1],il hr cq hp.2 Qq (next _ _ bo fun m hm=>⟨hm,by simp⟩)⟩
  |jK bo hh hy hb hn=>
   rename_i q m y;simp only[iV,Bool.and_eq_true,Bool.or_eq_true]at hp;refine⟨?_,il hr cq hp.2 Qq (next _ _ bo fun m hm=>⟨hm,by simp⟩)⟩;rcases hp.1 with ho|ho
   ·simp[aN,ho]
   ·simp only[Bool.not_eq_true']at ho;have hm:m∈nm:=by simpa using ho.1
    have Oi:m∉uO:=by simpa using ho.2
    obtain⟨a1,a2,a3,a4,a5⟩:=(ht m hm Oi).2 _ hb;have Zz:jY q g:=by
     cases q with
     |cells a b o' n'=>
      obtain⟨l,r1,r2⟩:=hn;refine⟨l,?_,r2⟩;unfold ai at r1 ⊢;rcases a1 with⟨cs,a1⟩|⟨ob,a1,ZA⟩
      ·have:=a5 cs a1;simp only[RQ.cX]at a1 this;rw[this]at r1;rw[a1];exact r1
      ·simp only[RQ.cX]at a1 a4;exfalso;simp only[Option.bind_eq_some_iff]at r1;obtain⟨cs,r3,_⟩:=r1;obtain⟨f,t,th,r4⟩:=uP r3;rw[a4,a1]at r4;exact ZA _ _ _ _ (Option.some.inj r4)
     |look r kd k z ok=>
      obtain⟨mm,r1,r2⟩:=hn;refine⟨mm,?_,r2⟩;simp only[RQ.cX]at a4;unfold dV at r1 ⊢;rw[←a4];exact r1
     |len r=>
      obtain⟨mm,r1,r2⟩:=hn;refine⟨mm,?_,r2⟩;simp only[RQ.cX]at a4;unfold dV at r1 ⊢;rw[←a4];exact r1
    have:=(hH Zz (.inr a2) a3).2;simp[aN,this]
  |wN bo hh hy xf hx ZB=>
   rename_i m p0 b0 v0 x0 y;have hb:xD ρ m (RQ.cX (.cells false b0 p0 1)):=.inl xf;have hn:jY (.cells false b0 p0 1) h:=⟨_,ZB,hx.Aw.1⟩;simp only[iV,Bool.and_eq_true,Bool.or_eq_true]at hp;refine⟨?_,il hr cq hp.2 Qq (next _ _ bo fun m hm=>⟨hm,by simp⟩)⟩;rcases hp.1 with (ho|ho)|ho
   ·simp[aN,ho]
   ·simp only[Bool.not_eq_true']at ho;have hm:m∈nm:=by simpa using ho.1
    have Oi:m∉uO:=by simpa using ho.2
    obtain⟨a1,a2,a3,a4,a5⟩:=(ht m hm Oi).2 _ hb;have Zz:jY (.cells false b0 p0 1) g:=by
     obtain⟨l,r1,r2⟩:=hn;refine⟨l,?_,r2⟩;unfold ai at r1 ⊢;rcases a1 with⟨cs,a1⟩|⟨ob,a1,ZA⟩
     ·have:=a5 cs a1;simp only[RQ.cX]at a1 this;rw[this]at r1;rw[a1];exact r1
     ·simp only[RQ.cX]at a1 a4;exfalso;simp only[Option.bind_eq_some_iff]at r1;obtain⟨cs,r3,_⟩:=r1;obtain⟨f,t,th,r4⟩:=uP r3;rw[a4,a1]at r4;exact ZA _ _ _ _ (Option.some.inj r4)
    have:=(hH Zz (.inr a2) a3).2;simp[aN,this]
   ·obtain⟨b1,x1,k1,k2,k3,k4⟩:=hB _ _ _ ho.1 ho.2;rw[xf]at k1;cases k1;obtain rfl:=hx.uniq k4;have:eP g g' (.cells false b0 p0 1)=true:=by
     unfold eP;rw[Bool.or_eq_true];left;unfold jQ;rw[bG];split
     ·simp only[k2,k3,hx.Aw.1]
     ·rfl
    simp[aN,this]
  |cU bo=>
   simp only[iV,Bool.and_eq_true]at hp;exact⟨by simp[aN,hp.1],il hr cq hp.2 Qq (next _ _ bo fun m hm=>by simp only[List.mem_append,not_or]at hm;exact hm)⟩
  |mu bo hh=>
   simp only[iV,Bool.and_eq_true]at hp;exact⟨by simp[aN,hp.1],il hr cq hp.2 Qq (next _ _ bo fun m hm=>by simp only[List.mem_append,not_or]at hm;exact hm)⟩
  |mw bo=>
   simp only[iV,Bool.and_eq_true]at hp;exact⟨by simp[aN,hp.1],il hr cq hp.2 Qq (next _ _ bo fun m hm=>⟨hm,by simp⟩)⟩
  |bad=>exact absurd rfl (mD _ List.mem_cons_self)
theorem lU {g:ah}:∀{ls:List VN} {es:List dD} {ρ:Gh} {F:Nat→Prop} {o:Ob} {h:ah} {j:Nat},rO oF ρ F o h ls es→(∀l∈ls,l.1≠ .bad)→p8 bs i j ls=true→bO bs i (.cU g g) j es=true
 |_,_,ρ,F,_,h,j,.nil _,_,_=>rfl
 |_,_,ρ,F,o,h,j,.cons (ls:=ls) hl hw hs hF cE Oh oK bV hr,mD,hp=>by
  have cq:∀l∈ls,l.1≠ .bad:=fun l hl=>mD l (List.mem_cons_of_mem _ hl);simp only[bO,Bool.and_eq_true];cases hl with
  |pure bo=>exact⟨rfl,lU hr cq hp⟩
  |alloc bo=>exact⟨rfl,lU hr cq hp⟩
  |Ff bo=>exact⟨by simp[aN,fZ],lU hr cq hp⟩
  |jK bo=>exact⟨by simp[aN,fZ],lU hr cq hp⟩
  |wN bo=>exact⟨by simp[aN,fZ],lU hr cq hp⟩
  |cU bo=>simp only[p8,Bool.and_eq_true]at hp;exact⟨by simp[aN,hp.1],lU hr cq hp.2⟩
  |mu bo=>simp only[p8,Bool.and_eq_true]at hp;exact⟨by simp[aN,hp.1],lU hr cq hp.2⟩
  |mw bo=>simp only[p8,Bool.and_eq_true]at hp;exact⟨by simp[aN,hp.1],lU hr cq hp.2⟩
  |bad=>exact absurd rfl (mD _ List.mem_cons_self)
theorem Sc {h h':ah} (W:Wf h) (same:∀x,x<h.size→h'.get x=h.get x) {b:Nat} {cs:List Value} (hr:h.rd b=some cs):h'.rd b=some cs:=by
 obtain⟨r,h1,h2,h3⟩:=rd_some hr;obtain⟨f1,t1,ue,hg⟩:=di h3;obtain⟨cr,mC⟩:=bw h1;obtain⟨qV,q1,q2,kG⟩:=dr h1;rw[hg]at kG;cases kG;have a1:=same b (W.lt hg);have a2:=same r.1 (W.lt mC);exact dq (bu (a1.trans hg) (a2.trans mC)) h2 (au (a1.trans hg))
theorem Oj {h h':ah} (W:Wf h) (same:∀x,x<h.size→h'.get x=h.get x) {b:Nat} (hb:b<h.size) {cs:List Value} (hr:h'.rd b=some cs):h.rd b=some cs:=by
 obtain⟨r,h1,h2,h3⟩:=rd_some hr;obtain⟨f1,t1,ue,hg⟩:=di h3;obtain⟨cr,mC⟩:=bw h1;obtain⟨qV,q1,q2,kG⟩:=dr h1;rw[hg]at kG;cases kG;have a1:=(same b hb).symm.trans hg;have hle:=W.le _ _ _ _ _ a1;have a2:=(same r.1 om).symm.trans mC;exact dq (bu a1 a2) h2 (au a1)
theorem Hn {g g' h:ah} (W:Wf g) (hG:∀b,b<g.size→g'.get b=g.get b) (hq:∀b,b<g.size→h.get b=g.get b) {q:RQ} (hn:jY q h):eP g g' q=true:=by
 by_cases hb:q.cX<g.size
 ·have k1:=hH (h:=h) (h':=g) hn (.inr (hq _ hb).symm) fun cs hr=>Oj W hq hb hr;exact(hH k1.1 (.inr (hG _ hb)) fun cs hr=>Sc W hG hr).2
 ·unfold eP jQ;have e:Nat.blt q.cX g.size=false:=by
   cases hx:Nat.blt q.cX g.size with
   |false=>rfl
   |true=>exact absurd (aI.1 hx) hb
  rw[e];rfl
theorem lV {g g':ah} (W:Wf g) (hG:∀b,b<g.size→g'.get b=g.get b):∀{ls:List VN} {es:List dD} {ρ:Gh} {F:Nat→Prop} {o:Ob} {h:ah} {q:Bool} {j:Nat},rO oF ρ F o h ls es→(∀l∈ls,l.1≠ .bad)→iz bs i q j ls=true→
 (q=true→g.size≤h.size∧∀b,b<g.size→h.get b=g.get b)→bO bs i (.cU g g') j es=true
 |_,_,ρ,F,_,h,q,j,.nil _,_,_,_=>rfl
 |_,_,ρ,F,o,h,q,j,.cons (ls:=ls) hl hw hs hF cE Oh oK bV hr,mD,hp,hq=>by
  have cq:∀l∈ls,l.1≠ .bad:=fun l hl=>mD l (List.mem_cons_of_mem _ hl);simp only[bO,Bool.and_eq_true];have ZC:∀{x:RQ},(q||ordered bs i j)=true→jY x h→aN bs i (.cU g g') j (.rd x h)=true:=fun {x} ho hn=>by
   rcases Bool.or_eq_true _ _▸ho with e|e
   ·simp[aN,Hn W hG (hq e).2 hn]
   ·simp[aN,e]
  cases hl with
  |pure bo hh=>subst hh;exact⟨rfl,lV W hG hr cq hp hq⟩
  |alloc bo=>exact⟨rfl,lV W hG hr cq (q:=false) hp fun e=>by cases e⟩
  |Ff bo hh V6 hc hn=>subst hh;simp only[iz,Bool.and_eq_true]at hp;exact⟨ZC hp.1 hn,lV W hG hr cq hp.2 hq⟩
  |jK bo hh hy hb hn=>subst hh;simp only[iz,Bool.and_eq_true]at hp;exact⟨ZC hp.1 hn,lV W hG hr cq hp.2 hq⟩
  |wN bo hh hy hb hx ft=>subst hh;simp only[iz,Bool.and_eq_true]at hp;exact⟨ZC hp.1 ⟨_,ft,hx.Aw.1⟩,lV W hG hr cq hp.2 hq⟩
  |cU bo=>simp only[iz,Bool.and_eq_true]at hp;exact⟨by simp[aN,hp.1],lV W hG hr cq (q:=false) hp.2 fun e=>by cases e⟩
  |mu bo hh=>subst hh;simp only[iz,Bool.and_eq_true]at hp;exact⟨by simp[aN,hp.1],lV W hG hr cq hp.2 hq⟩
  |mw bo hG2=>
   simp only[iz,Bool.and_eq_true]at hp;exact⟨by simp[aN,hp.1],lV W hG hr cq hp.2 fun e=>⟨Nat.le_trans (hq e).1 hs,fun b hb=>(hG2 b (Nat.lt_of_lt_of_le hb (hq e).1)).trans ((hq e).2 b hb)⟩⟩
  |bad=>exact absurd rfl (mD _ List.mem_cons_self)
theorem BR:∀{es:List dD} {j:Nat},bO bs i .pure j es=true
 |[],_=>rfl
 |e::es,j=>by simp only[bO,Bool.and_eq_true];exact⟨by cases e<;>rfl,BR⟩
theorem xN {g g':ah} (W:Wf g):∀{es:List dD} {j:Nat},bO bs i (.alloc g g') j es=true
 |[],_=>rfl
 |e::es,j=>by
  simp only[bO,Bool.and_eq_true];exact⟨by cases e<;>first|rfl |exact tT W _,xN W⟩
theorem fq:∀{ls:List VN} {es:List dD} {ρ:Gh} {F:Nat→Prop} {o:Ob} {h:ah} {j:Nat},rO oF ρ F o h ls es→eQ bs oF j ls=true→jR bs j es=true
 |_,_,ρ,F,_,h,j,.nil _,_=>rfl
 |_,_,ρ,F,o,h,j,.cons (h':=h') (l:=l) (e:=e) (ls:=ls) hl hw hs hF cE Oh oK bV hr,hd=>by
  have mD:=qu hd;have cq:∀l∈ls,l.1≠ .bad:=fun l hl=>mD l (List.mem_cons_of_mem _ hl);simp only[jR,Bool.and_eq_true];cases hl with
  |pure=>exact⟨⟨rfl,BR⟩,fq hr hd⟩
  |alloc=>exact⟨⟨rfl,xN hw⟩,fq hr hd⟩
  |Ff bo hh V6 hc hn=>subst hh;exact⟨⟨by simp only[kc,aI];exact vl hw hn,Qp hc hr cq (hF _ V6) hn⟩,fq hr hd⟩
  |jK bo hh hy hb hn=>
   subst hh;simp only[eQ,Bool.and_eq_true]at hd;refine⟨⟨by simp only[kc,aI];exact vl hw hn,nh hr cq hd.1 fun _=>?_⟩,fq hr hd.2⟩;obtain⟨⟨y',r1⟩,r2,_⟩:=bo _ _ hy (by simp);exact⟨⟨y',r1⟩,by unfold xD at hb ⊢;rw[r2];exact hb,hn⟩
  |wN bo hh hy hb hx ft=>
   rename_i nn pp bb vv xx yy;subst hh;simp only[eQ,Bool.and_eq_true]at hd;have hn:jY (.cells false _ _ 1) _:=⟨_,ft,hx.Aw.1⟩;refine⟨⟨by simp only[kc,aI];exact vl hw hn,hY (x:=xx) hr cq hd.1 fun _=>?_⟩,fq hr hd.2⟩;obtain⟨⟨y',r1⟩,r2,_⟩:=bo _ _ hy (by simp);exact⟨⟨y',r1⟩,oK _ _ hb,ft,hx.bd oK⟩
  |cU bo=>
   simp only[eQ,Bool.and_eq_true]at hd;refine⟨⟨by simp only[kc,az];exact hs,il hr cq hd.1 (by rw[hr.next.1];exact Ky bV hr.next.2 oK) fun m hm Oi=>?_⟩,fq hr hd.2⟩;obtain⟨y,hy⟩:=vk hm;obtain⟨⟨y',r1⟩,r2,r3⟩:=bo m y hy Oi;refine⟨⟨y',r1⟩,fun b hb=>?_⟩;have bJ:xD ρ m b:=by unfold xD at hb ⊢;rw[←r2];exact hb
   obtain⟨b1,b2⟩:=r3 b bJ;exact⟨Oh m y b hy bJ,b1,b2,b1,b2⟩
  |mu bo hh=>
   subst hh;simp only[eQ,Bool.and_eq_true]at hd;exact⟨⟨by simp only[kc,az];exact hs,lU hr cq hd.1⟩,fq hr hd.2⟩
  |mw bo hG=>
   simp only[eQ,Bool.and_eq_true,Bool.or_eq_true]at hd;refine⟨⟨by simp only[kc,az];exact hs,?_⟩,fq hr hd.2⟩;rcases hd.1 with CP|CP
   ·exact lV hw hG hr cq CP fun _=>⟨hs,hG⟩
   ·refine il hr cq CP (by rw[hr.next.1];exact Ky bV hr.next.2 oK) fun m hm Oi=>?_;obtain⟨y,hy⟩:=vk hm;obtain⟨⟨y',r1⟩,r2,r3⟩:=bo m y hy Oi;refine⟨⟨y',r1⟩,fun b hb=>?_⟩;have bJ:xD ρ m b:=by unfold xD at hb ⊢;rw[←r2];exact hb
    obtain⟨b1,b2⟩:=r3 b bJ;exact⟨Oh m y b hy bJ,b1,b2,b1,b2⟩
  |bad=>exact absurd rfl (mD _ List.mem_cons_self)
end
section
variable {T E:Env} {X:Cx} {ρ:Gh} {F:Nat→Prop} {o:Ob} {c n:Nat} {af:AF} {f:Fr} {h:ah} {ops:List Oper}
theorem rP (p:Nat×TV) (f:Fr) (t:Nat):pc (p::f) t=if p.1=t then p.2 else pc f t:=by
 show(match Nat.beq p.1 t with|true=>p.2|false=>pc f t)=_;rw[Bk];by_cases h:p.1=t<;>simp[h]
theorem tU {d:Option Tmp} {v:TV} {x:Value} {K:Fr→Prop} (hw:p9 d n v f K) (S:c6 c ρ F h f af) (hn:af.n=n) (hv:VR c ρ F h v x):∃f',K f'∧c6 c ρ F h f' (af.put d x)∧(af.put d x).n=n:=by
 unfold p9 at hw;cases d with
 |none=>exact⟨f,hw,S,hn⟩
 |some t=>
  simp only at hw;split at hw
  ·rename_i ht;rw[aI]at ht;refine⟨_,hw,fun u=>?_,by rw[AF.PZ];exact hn⟩;rw[rP];show VR c ρ F h _ ((af.set t x).get u);rw[AF.fO];by_cases e:t=u
   ·subst e;rw[if_pos rfl,if_pos ⟨rfl,om⟩];exact hv
   ·rw[if_neg e,if_neg (fun e2=>e e2.1.symm)];exact S u
  ·exact hw.elim
theorem xO {p:Oper} {K1 K2:Prop} (hw:mZ ops p f K1 K2) (S:c6 c ρ F h f af):(wanted ops p af=true∧K1)∨(wanted ops p af=false∧K2):=by
 unfold mZ at hw;unfold wanted;split at hw
 ·rename_i hg;rw[hg];exact .inl ⟨rfl,hw⟩
 ·rename_i j want hg;rw[hg];simp only
  split at hw
  ·exact hw.elim
  ·rename_i q hq;rw[hq];simp only[Option.bind_some];split at hw
   ·exact hw.elim
   ·rename_i t ht;rw[ht];simp only
    split at hw
    ·rename_i b hb;have:=S t;rw[hb]at this;rw[this.de.1];simp only
     cases b<;>cases want<;>simp only at hw<;>simp[hw]
    ·rename_i hb;have:=S t;rw[hb]at this;obtain⟨a,ha,hl⟩:=this.qe;rw[ha];exact .inr ⟨rfl,hw⟩
    ·exact hw.elim
theorem zZ (L:bR T E) (NX:DC E X) {K:RK}:∀(rest:List Oper) {ρ:Gh} {F:Nat→Prop} {o:Ob} {c:Nat} {f:Fr} {af:AF} {h:ah},Bi T (VC E) n ops rest f o c K→Mem X ρ F o c h→c6 c ρ F h f af→af.n=n→
 ∃n0 tA h' f' o' c' ρ' F',(∀m,n0≤m→te E X.base (e6 E X.base m) (fN X.base (aS E X.base m)) ops rest af h=some (tA,h'))∧K f' o' c'∧Nx X ρ F o c h ρ' F' o' c' h'∧c6 c' ρ' F' h' f' tA∧tA.n=n
 |[],ρ,F,o,c,f,af,h,hw,H,S,hn=>⟨0,af,h,f,o,c,ρ,F,fun m _=>rfl,hw,.refl H,S,hn⟩
 |p::rest,ρ,F,o,c,f,af,h,hw,H,S,hn=>by
  simp only[Bi]at hw;rcases xO hw S with⟨oD,hw⟩|⟨oD,hw⟩
  ·obtain⟨n1,r,v,o1,c1,gp,F1,lg,h1,h2,N,hv,_⟩:=Kx L NX H S hw;have S1:c6 c1 gp F1 r.h f af:=fun t=>N.bd _ _ (S t);obtain⟨f1,h3,S2,N1⟩:=tU h2 S1 hn hv;obtain⟨n2,tA,h',f',o',c',ρ',F',k1,k2,N2,k3,k4⟩:=zZ L NX rest h3 N.mem S2 N1;refine⟨max n1 n2,tA,h',f',o',c',ρ',F',fun m hm=>?_,k2,⟨N2.mem,fun t x hx=>N2.bd t x (N.bd t x hx),Nat.le_trans N.size N2.size,fun b hb=>N2.FF b (N.FF b hb),fun b cs hb hr=>N2.cE b cs (N.FF b hb) (N.cE b cs hb hr)⟩,k3,k4⟩;unfold te;rw[oD];simp only
   rw[h1 m om];simp only[Option.bind_some];exact k1 m om
  ·obtain⟨f1,h3,S2,N1⟩:=tU hw S hn (show VR _ _ _ _ (.dg []) undef from .dg rfl fun i t v h=>by simp at h);obtain⟨n2,tA,h',f',o',c',ρ',F',k1,k2,N2,k3,k4⟩:=zZ L NX rest h3 H S2 N1;refine⟨n2,tA,h',f',o',c',ρ',F',fun m hm=>?_,k2,N2,k3,k4⟩;unfold te;rw[oD];exact k1 m hm
theorem vo (L:bR T E) (NX:DC E X) {K:List VN→RK}:∀(rest:List Oper) {ρ:Gh} {F:Nat→Prop} {o:Ob} {c:Nat} {f:Fr} {af:AF} {h:ah} {lg:List VN},qa T (VC E) n ops rest f o c lg K→Mem X ρ F o c h→c6 c ρ F h f af→af.n=n→
 ∃n0 tA h' es f' o' c' ρ' F' ls,(∀m,n0≤m→jP E X.base (e6 E X.base m) (fN X.base (aS E X.base m)) ops rest af h=some (tA,h',es))∧K (lg++ls) f' o' c'∧Nx X ρ F o c h ρ' F' o' c' h'∧c6 c' ρ' F' h' f' tA∧tA.n=n∧
  rO o' ρ F o h ls es
 |[],ρ,F,o,c,f,af,h,lg,hw,H,S,hn=>⟨0,af,h,[],f,o,c,ρ,F,[],fun m _=>rfl,by simpa[qa]using hw,.refl H,S,hn,.nil H.zY⟩
 |p::rest,ρ,F,o,c,f,af,h,lg,hw,H,S,hn=>by
  simp only[qa]at hw;rcases xO hw S with⟨oD,hw⟩|⟨oD,hw⟩
  ·obtain⟨n1,r,v,o1,c1,gp,F1,l,h1,h2,N,hv,jN⟩:=Kx L NX H S hw;have S1:c6 c1 gp F1 r.h f af:=fun t=>N.bd _ _ (S t);obtain⟨f1,h3,S2,N1⟩:=tU h2 S1 hn hv;obtain⟨n2,tA,h',es,f',o',c',ρ',F',ls,k1,k2,N2,k3,k4,k5⟩:=vo L NX rest h3 N.mem S2 N1
   refine⟨max n1 n2,tA,h',r.log::es,f',o',c',ρ',F',(l,o)::ls,fun m hm=>?_,by simpa using k2,⟨N2.mem,fun t x hx=>N2.bd t x (N.bd t x hx),Nat.le_trans N.size N2.size,fun b hb=>N2.FF b (N.FF b hb),fun b cs hb hr=>N2.cE b cs (N.FF b hb) (N.cE b cs hb hr)⟩,k3,k4,
    .cons jN H.wf N.size N.FF N.cE (fun m y b hy hb=>H.live hy hb) (fun k b hk=>by cases N.bd _ _ (VR.mp (c:=c) (F:=F) (h:=h) hk)with|mp h'=>exact h') H.zY k5⟩
   unfold jP;rw[oD];simp only
   rw[h1 m om];simp only[Option.bind_some];rw[k1 m om];rfl
  ·obtain⟨f1,h3,S2,N1⟩:=tU hw S hn (show VR _ _ _ _ (.dg []) undef from .dg rfl fun i t v h=>by simp at h);obtain⟨n2,tA,h',es,f',o',c',ρ',F',ls,k1,k2,N2,k3,k4,k5⟩:=vo L NX rest h3 H S2 N1;refine⟨n2,tA,h',.pure::es,f',o',c',ρ',F',(.pure,o)::ls,fun m hm=>?_,by simpa using k2,N2,k3,k4,.cons (.pure (.refl _) rfl) H.wf (Nat.le_refl _) (fun _ h=>h) (fun _ _ _ hr=>hr) (fun m y b hy hb=>H.live hy hb) (fun _ _ h=>h) H.zY k5⟩;unfold jP;rw[oD];simp only
   rw[k1 m hm];rfl
end
section
variable {T E:Env} {X:Cx} {n:Nat}
theorem Kz {ids:List (Option Nat)} {o:Ob} {f f1:Fr} {t:Nat} (L:Ug ids o f f1):Vo ids o (pc f t) (pc f1 t)∨pc f1 t= .j:=by
 induction L with
 |nil=>exact .inr rfl
 |cons h _ ih=>
  rw[rP];split
  ·rename_i e;subst e;exact .inl h
  ·exact ih
theorem adapt {ρ:Gh} {F:Nat→Prop} {o:Ob} {c:Nat} {f:Fr} {af:AF} {h:ah} (H:Mem X ρ F o c h) (S:c6 c ρ F h f af) {sh:List Nat} {ids:List (Option Nat)} {U:List Nat} {f1:Fr} {o1:Ob} (hi:(gD c ids&&mW X.c0 0 ids&&ko ids U)=true)
 (hf:Ug ids (bQ sh o) f f1) (ho:Fi ids (bQ sh o) U o1):∃ρ' F',Mem X ρ' F' o1 ids.length h∧c6 ids.length ρ' F' h f1 af:=by
 simp only[Bool.and_eq_true]at hi;obtain⟨F1,S1⟩:=iD H sh;refine⟨_,F1,S1.mem.le hi.1.1 hi.1.2 hi.2 ho,fun t=>?_⟩;rcases Kz (t:=t) hf with h1|h1
 ·exact nS S1.mem _ _ _ h1 (S1.bd _ _ (S t))
 ·rw[h1];exact .j _
def kT (E:Env) (base:Nat) (code:Code) (af:AF) (h:ah) (r:Ex×AF×ah):Prop:=∃n0,∀m,n0≤m→aS E base m code af h=some r
def Comes (E:Env) (X:Cx) (n:Nat) (code:Code) (af:AF) (h:ah) (Q:CK):Prop:=
 ∃ex tA h' f' o' c' ρ' F',kT E X.base code af h (ex,tA,h')∧Q ex f' o' c'∧Mem X ρ' F' o' c' h'∧c6 c' ρ' F' h' f' tA∧tA.n=n
theorem kT.ZD {a b:Code} {af mn:AF} {h h1:ah} {r:Ex×AF×ah} {base:Nat} (A:kT E base a af h (.normal,mn,h1)) (B:kT E base b mn h1 r):kT E base (.seq a b) af h r:=by
 obtain⟨n1,A⟩:=A;obtain⟨n2,B⟩:=B;refine⟨max n1 n2+1,fun m hm=>?_⟩;obtain⟨k,rfl⟩:∃k,m=k+1:=⟨m - 1,om⟩;simp only[aS];rw[A k om];exact B k om
theorem kT.V8 {a b:Code} {af mn:AF} {h h1:ah} {ex:Ex} {base:Nat} (A:kT E base a af h (ex,mn,h1)) (hx:ex≠ .normal):kT E base (.seq a b) af h (ex,mn,h1):=by
 obtain⟨n1,A⟩:=A;refine⟨n1+1,fun m hm=>?_⟩;obtain⟨k,rfl⟩:∃k,m=k+1:=⟨m - 1,om⟩;simp only[aS];rw[A k om];cases ex<;>first|rfl |exact absurd rfl hx
theorem kT.Qr {b:Code} {af mn:AF} {h h1:ah} {r:Ex×AF×ah} {base:Nat} (A:kT E base b af h (.normal,mn,h1)) (B:kT E base (.loop b) mn h1 r):kT E base (.loop b) af h r:=by
 obtain⟨n1,A⟩:=A;obtain⟨n2,B⟩:=B;refine⟨max n1 n2+1,fun m hm=>?_⟩;obtain⟨k,rfl⟩:∃k,m=k+1:=⟨m - 1,om⟩;simp only[aS];rw[A k om];exact B k om
theorem kT.FI {b:Code} {af mn:AF} {h h1:ah} {ex:Ex} {base:Nat} (A:kT E base b af h (ex,mn,h1)) (hx:ex≠ .normal):kT E base (.loop b) af h (ex,mn,h1):=by
 obtain⟨n1,A⟩:=A;refine⟨n1+1,fun m hm=>?_⟩;obtain⟨k,rfl⟩:∃k,m=k+1:=⟨m - 1,om⟩;simp only[aS];rw[A k om];cases ex<;>first|rfl |exact absurd rfl hx
theorem kT.one {c:Code} {af:AF} {h:ah} {r:Ex×AF×ah} {base:Nat} (hx:∀k,aS E base (k+1) c af h=some r):kT E base c af h r:=
 ⟨1,fun m hm=>by obtain⟨k,rfl⟩:∃k,m=k+1:=⟨m - 1,om⟩;exact hx k⟩
theorem n9 {ρ:Gh} {F:Nat→Prop} {o:Ob} {c:Nat} {f:Fr} {af:AF} {h:ah} {K:RK} (H:Mem X ρ F o c h) (S:c6 c ρ F h f af) (ht:g6 X.c0 f o c K):∃f1 o1 c1 ρ' F',K f1 o1 c1∧Mem X ρ' F' o1 c1 h∧c6 c1 ρ' F' h f1 af:=by
 obtain⟨sh,ids,U,f1,o1,⟨hf,ho,hi⟩,hK⟩:=ht;obtain⟨ρ',F',H',S'⟩:=adapt H S hi hf ho;exact⟨f1,o1,_,ρ',F',hK,H',S'⟩
theorem V9 {dk:List Nat} (L:bR T E) (NX:DC E X):∀(code:Code) {ρ:Gh} {F:Nat→Prop} {o:Ob} {c:Nat} {f:Fr} {af:AF} {h:ah} {Q:CK},wp T (VC E) n X.c0 dk code f o c Q→Mem X ρ F o c h→c6 c ρ F h f af→af.n=n→Comes E X n code af h Q:=by
 intro code
 induction code with
 |skip=>intro ρ F o c f af h Q hw H S hn;exact⟨.normal,af,h,f,o,c,ρ,F,.one fun k=>rfl,hw,H,S,hn⟩
 |exit id=>intro ρ F o c f af h Q hw H S hn;exact⟨.exit id,af,h,f,o,c,ρ,F,.one fun k=>rfl,hw,H,S,hn⟩
 |ret=>intro ρ F o c f af h Q hw H S hn;exact⟨.ret,af,h,f,o,c,ρ,F,.one fun k=>rfl,hw,H,S,hn⟩
 |region id ops draw=>
  intro ρ F o c f af h Q hw H S hn;simp only[wp]at hw;cases draw with
  |false=>
   obtain⟨n0,tA,h',f',o',c',ρ',F',k1,k2,N,k3,k4⟩:=zZ L NX ops.toList hw H S hn;refine⟨.normal,tA,h',f',o',c',ρ',F',⟨n0+1,fun m hm=>?_⟩,k2,N.mem,k3,k4⟩;obtain⟨k,rfl⟩:∃k,m=k+1:=⟨m - 1,om⟩;simp only[aS,jT];have:=k1 k om;unfold e6 at this;rw[this];rfl
  |true=>
   simp only at hw;split at hw
   ·rename_i bU;obtain⟨n0,tA,h',es,f',o',c',ρ',F',ls,k1,k2,N,k3,k4,k5⟩:=vo L NX ops.toList hw H S hn;simp only[List.nil_append]at k2;split at k2
    ·rename_i hd;refine⟨.normal,tA,h',f',o',c',ρ',F',⟨n0+1,fun m hm=>?_⟩,k2,N.mem,k3,k4⟩;obtain⟨k,rfl⟩:∃k,m=k+1:=⟨m - 1,om⟩;simp only[aS,jT];have:=k1 k om;unfold e6 at this;rw[hn,bU,this];simp only[bp,Option.bind_some];rw[fq k5 hd]
    ·exact k2.elim
   ·exact hw.elim
 |seq a b Wa Wb=>
  intro ρ F o c f af h Q hw H S hn;simp only[wp]at hw;obtain⟨ex,mn,h1,f1,o1,c1,gp,F1,r1,q1,H1,S1,n1⟩:=Wa hw H S hn;cases ex with
  |normal=>
   obtain⟨Sd,af2,h2,f2,o2,c2,Uu,F2,r2,q2,H2,S2,n2⟩:=Wb q1 H1 S1 n1;exact⟨Sd,af2,h2,f2,o2,c2,Uu,F2,r1.ZD r2,q2,H2,S2,n2⟩
  |exit id=>exact⟨.exit id,mn,h1,f1,o1,c1,gp,F1,r1.V8 (by simp),q1,H1,S1,n1⟩
  |ret=>exact⟨.ret,mn,h1,f1,o1,c1,gp,F1,r1.V8 (by simp),q1,H1,S1,n1⟩
 |cond q t e Wc We=>
  intro ρ F o c f af h Q hw H S hn;simp only[wp]at hw;split at hw
  ·exact hw.elim
  ·rename_i j5;obtain⟨v,h1,h2⟩:=nV (E:=E) L ((NX.now H).sub L) S j5;split at hw
   ·rename_i b hb;rw[hb]at h2;have:=h2.de.1;subst this;have key:∀{x:Code} {r:Ex×AF×ah},kT E X.base x af h r→(∀k,aS E X.base (k+1) (.cond q t e) af h=aS E X.base k x af h)→kT E X.base (.cond q t e) af h r:=by
     rintro x r ⟨n0,hr⟩ hk;refine⟨n0+1,fun m hm=>?_⟩;obtain⟨k,rfl⟩:∃k,m=k+1:=⟨m - 1,om⟩;rw[hk];exact hr k om
    split at hw
    ·obtain⟨ex,mn,wo,f1,o1,c1,gp,F1,r1,q1,H1,S1,n1⟩:=Wc hw H S hn;exact⟨ex,mn,wo,f1,o1,c1,gp,F1,key r1 fun k=>by simp only[aS,h1,Option.bind_some,Av],q1,H1,S1,n1⟩
    ·obtain⟨ex,mn,wo,f1,o1,c1,gp,F1,r1,q1,H1,S1,n1⟩:=We hw H S hn;exact⟨ex,mn,wo,f1,o1,c1,gp,F1,key r1 fun k=>by simp only[aS,h1,Option.bind_some,Av],q1,H1,S1,n1⟩
   ·exact hw.elim
 |block id b ih=>
  intro ρ F o c f af h Q hw H S hn;simp only[wp]at hw
  have key:∀{n0:Nat} {Sd:Ex} {mn:AF} {h1:ah},(∀k,n0≤k→aS E X.base (k+1) (.block id b) af h=some (Sd,mn,h1))→kT E X.base (.block id b) af h (Sd,mn,h1):=fun {n0} {Sd} {mn} {h1} hk=>
   ⟨n0+1,fun m hm=>by obtain⟨k,rfl⟩:∃k,m=k+1:=⟨m - 1,om⟩;exact hk k om⟩
  split at hw
  ·obtain⟨ex,mn,h1,f1,o1,c1,gp,F1,⟨n0,r1⟩,q1,H1,S1,n1⟩:=ih hw H S hn;cases ex with
   |normal=>exact⟨.normal,mn,h1,f1,o1,c1,gp,F1,key (n0:=n0) fun k hk=>by simp only[aS,r1 k hk],q1,H1,S1,n1⟩
   |ret=>exact⟨.ret,mn,h1,f1,o1,c1,gp,F1,key (n0:=n0) fun k hk=>by simp only[aS,r1 k hk],q1,H1,S1,n1⟩
   |exit lh=>
    simp only at q1;split at q1
    ·rename_i Sf;exact⟨.normal,mn,h1,f1,o1,c1,gp,F1,key (n0:=n0) fun k hk=>by simp only[aS,r1 k hk,Sf,cond_true],q1,H1,S1,n1⟩
    ·rename_i Sf;exact⟨.exit lh,mn,h1,f1,o1,c1,gp,F1,key (n0:=n0) fun k hk=>by simp only[aS,r1 k hk,Sf,cond_false],q1,H1,S1,n1⟩
  ·obtain⟨Jb,hw,Wg⟩:=hw;obtain⟨ex,mn,h1,f1,o1,c1,gp,F1,⟨n0,r1⟩,q1,H1,S1,n1⟩:=ih hw H S hn;cases ex with
   |normal=>
    obtain⟨f2,o2,c2,Uu,F2,hM,H2,S2⟩:=n9 H1 S1 q1;exact⟨.normal,mn,h1,f2,o2,c2,Uu,F2,key (n0:=n0) fun k hk=>by simp only[aS,r1 k hk],Wg _ _ _ hM,H2,S2,n1⟩
   |ret=>exact⟨.ret,mn,h1,f1,o1,c1,gp,F1,key (n0:=n0) fun k hk=>by simp only[aS,r1 k hk],q1,H1,S1,n1⟩
   |exit lh=>
    simp only at q1;split at q1
    ·rename_i Sf;obtain⟨f2,o2,c2,Uu,F2,hM,H2,S2⟩:=n9 H1 S1 q1;exact⟨.normal,mn,h1,f2,o2,c2,Uu,F2,key (n0:=n0) fun k hk=>by simp only[aS,r1 k hk,Sf,cond_true],Wg _ _ _ hM,H2,S2,n1⟩
    ·rename_i Sf;exact⟨.exit lh,mn,h1,f1,o1,c1,gp,F1,key (n0:=n0) fun k hk=>by simp only[aS,r1 k hk,Sf,cond_false],q1,H1,S1,n1⟩
 |loop b ih=>
  intro ρ F o c f af h Q hw H S hn;simp only[wp]at hw;split at hw;rotate_left
  ·have main:∀(k:Nat) {ρ:Gh} {F:Nat→Prop} {o:Ob} {c:Nat} {f:Fr} {af:AF} {h:ah},xw (fun f o c Q=>wp T (VC E) n X.c0 dk b f o c Q) k f o c Q→Mem X ρ F o c h→c6 c ρ F h f af→af.n=n→Comes E X n (.loop b) af h Q:=by
    intro k
    induction k with
    |zero=>intro ρ F o c f af h hw;exact hw.elim
    |succ k ZE=>
     intro ρ F o c f af h hw H S hn;simp only[xw]at hw;obtain⟨ex,mn,h1,f1,o1,c1,gp,F1,r1,q1,H1,S1,n1⟩:=ih hw H S hn;cases ex with
     |normal=>
      obtain⟨ex,ZF,h3,f3,o3,c3,ZG,F3,r3,q3,H3,S3,n3⟩:=ZE q1 H1 S1 n1;exact⟨ex,ZF,h3,f3,o3,c3,ZG,F3,r1.Qr r3,q3,H3,S3,n3⟩
     |exit id=>exact⟨.exit id,mn,h1,f1,o1,c1,gp,F1,r1.FI (by simp),q1,H1,S1,n1⟩
     |ret=>exact⟨.ret,mn,h1,f1,o1,c1,gp,F1,r1.FI (by simp),q1,H1,S1,n1⟩
   exact main 64 hw H S hn
  obtain⟨Inv,⟨k0,hI⟩,Wh⟩:=hw;obtain⟨f1,o1,c1,gp,F1,hI1,H1,S1⟩:=n9 H S hI;have main:∀(k:Nat) {ρ:Gh} {F:Nat→Prop} {o:Ob} {c:Nat} {f:Fr} {af:AF} {h:ah},Inv k f o c→Mem X ρ F o c h→c6 c ρ F h f af→af.n=n→Comes E X n (.loop b) af h Q:=by
   intro k
   induction k using Nat.strongRecOn with
   |ind k ZE=>
    intro ρ F o c f af h hI H S hn;obtain⟨ex,mn,h1,f1,o1,c1,gp,F1,r1,q1,H1,S1,n1⟩:=ih (Wh k f o c hI) H S hn;cases ex with
    |normal=>
     obtain⟨k',ht,bj⟩:=q1;obtain⟨f2,o2,c2,Uu,F2,hI2,H2,S2⟩:=n9 H1 S1 ht;obtain⟨ex,ZF,h3,f3,o3,c3,ZG,F3,r3,q3,H3,S3,n3⟩:=ZE k' bj hI2 H2 S2 n1;exact⟨ex,ZF,h3,f3,o3,c3,ZG,F3,r1.Qr r3,q3,H3,S3,n3⟩
    |exit id=>exact⟨.exit id,mn,h1,f1,o1,c1,gp,F1,r1.FI (by simp),q1,H1,S1,n1⟩
    |ret=>exact⟨.ret,mn,h1,f1,o1,c1,gp,F1,r1.FI (by simp),q1,H1,S1,n1⟩
  exact main k0 hI1 H1 S1 hn
 |_=>intro ρ F o c f af h Q hw H S hn;exact hw.elim
end
section
variable {T E:Env} {X:Cx} {ρ:Gh} {F:Nat→Prop} {o:Ob} {c n:Nat} {f:Fr} {af:AF} {h:ah}
theorem pn:∀(l:List Value) (i:Nat) (f:AF) (t:Nat),(AF.mF l i f).get t=(if i≤t∧t<i+l.length∧t<f.n then(match l[t - i]? with|some v=>v|none=>undef)else f.get t)∧(AF.mF l i f).n=f.n
 |[],i,f,t=>by
  refine⟨?_,rfl⟩;rw[if_neg (by simp only[List.length_nil];omega)];rfl
 |v::l,i,f,t=>by
  simp only[AF.mF];obtain⟨h1,h2⟩:=pn l (i+1) (f.set i v) t;rw[AF.xe]at h1 h2;refine⟨?_,h2⟩;rw[h1];by_cases hx:i+1≤t∧t<i+1+l.length∧t<f.n
  ·rw[if_pos hx,if_pos (by simp only[List.length_cons];omega)];have:t - i=(t - (i+1))+1:=by omega
   rw[this,List.getElem?_cons_succ]
  ·rw[if_neg hx,AF.fO];by_cases e:t=i
   ·subst e;by_cases hn:t<f.n
    ·rw[if_pos ⟨rfl,hn⟩,if_pos (by simp only[List.length_cons];omega)];simp
    ·rw[if_neg (fun h=>hn h.2),if_neg om]
   ·rw[if_neg (fun h=>e h.1),if_neg (by simp only[List.length_cons];omega)]
theorem xP:∀(l:List TV) (i t:Nat),pc (qd i l) t=if i≤t then(match l[t - i]? with|some v=>v|none=>.j)else .j
 |[],i,t=>by simp[qd,pc]
 |v::l,i,t=>by
  simp only[qd];rw[rP,xP l (i+1) t];by_cases e:i=t
  ·subst e;simp
  ·rw[if_neg e];by_cases hx:i+1≤t
   ·rw[if_pos hx,if_pos om];have:t - i=(t - (i+1))+1:=by omega
    rw[this,List.getElem?_cons_succ]
   ·rw[if_neg hx];by_cases hy:i≤t
    ·omega
    ·rw[if_neg hy]
theorem BS {args:List TV} {dJ:List Value} (H:dh c ρ F h args dJ) (hn:args.length≤n):c6 c ρ F h (qd 0 args) (AF.enter dJ n)∧(AF.enter dJ n).n=n:=by
 refine⟨fun t=>?_,(pn dJ 0 _ 0).2⟩;rw[xP,if_pos (Nat.zero_le _)];cases ht:args[t - 0]? with
 |none=>exact .j _
 |some v=>
  simp only
  have bj:=(List.getElem?_eq_some_iff.1 ht).1;obtain⟨x,hx⟩:∃x,dJ[t - 0]? =some x:=⟨_,List.getElem?_eq_getElem (by rw[←H.1];exact bj)⟩;have:=(pn dJ 0 ⟨.nil,n⟩ t).1;unfold AF.enter;rw[this,if_pos ⟨Nat.zero_le _,by rw[←H.1];omega,by simp only;omega⟩,hx];exact H.2 _ _ _ ht hx
theorem vp (L:bR T E) (H:Mem X ρ F o c h) (S:c6 c ρ F h f af):∀{rs:List ResultVar} {vs:List TV},Bj T f o rs=some vs→∃xs,cL E h af rs=some xs∧dh c ρ F h vs xs
 |[],vs,hv=>by simp[Bj]at hv;subst hv;exact⟨[],rfl,.nil⟩
 | .tmp t::l,vs,hv=>by
  unfold Bj at hv;split at hv
  ·rename_i ws Qs;cases hv;obtain⟨xs,h1,h2⟩:=vp L H S Qs;exact⟨_,by simp[cL,h1],.cons (S t) h2⟩
  ·cases hv
 | .cell a t::l,vs,hv=>by
  unfold Bj at hv;split at hv
  ·rename_i m q agg n ha hs;split at hv
   ·rename_i cs hl;split at hv
    ·rename_i w hw;split at hv
     ·rename_i v ws tM Qs mi;cases hv;obtain⟨xs,h1,h2⟩:=vp L H S Qs;obtain⟨Sm,hO⟩:=H.bN hl;have hp:=S a;rw[ha]at hp;cases hO with
      |cells hb hg ml hc=>
       rename_i Sq b aF cs';cases hE:af.get a with
       |pointer p=>
        rw[hE]at hp;cases hp with
        |ptr bJ=>
         rw[hb]at bJ;cases bJ;rw[aM]at hw;obtain⟨w1,rfl⟩:=hw;obtain⟨S1,S2,S3,_,a1,a2,a3⟩:=hc.part q n;obtain⟨k2,_⟩:=a2.Uk (fun t v hv hf=>hv.dm hf) mi;have k1:takeN n (cs'.drop q)=some ((cs'.drop q).take n):=by
          rw[aM];have:=hc.len;simp only[List.length_drop]at w1 ⊢;exact⟨om,trivial⟩
         obtain⟨x,k3,k4⟩:=fm tM k2;have BF:M.ai h b q n=some ((cs'.drop q).take n):=by
          unfold M.ai;rw[dq (bu hg hg) ml (au hg)];exact k1
         exact⟨x::xs,by simp[cL,hE,gV,L.shape hs,BF,k3,h1],.cons k4 h2⟩
       |_=>rw[hE]at hp;cases hp
     ·cases hv
    ·cases hv
   ·cases hv
  ·cases hv
theorem Ol {vs:List TV} {xs:List Value} (H:dh c ρ F h vs xs):VR c ρ F h (RC vs) (cz xs):=by
 match vs,xs,H with
 |[],xs,H=>rw[H.bz];exact .gF .nil
 |[v],xs,H=>
  obtain⟨x,m,rfl,h1,h2⟩:=H.aH;rw[h2.bz];exact h1
 |v::w::l,xs,H=>
  obtain⟨x,m,rfl,h1,h2⟩:=H.aH;obtain⟨y,m',rfl,h3,h4⟩:=h2.aH;exact .gF (by simpa using dh.cons h1 (.cons h3 h4))
theorem VC.Sg (L:bR T E) {g:FuncId} {fn:Func} {code:Code} {c0:Nat} {args:List TV} {o0:Ob} {R:TV→Ob→Nat→Prop} (hf:E.func g=some fn)
 (ho:∀base ρ F h S dJ,Mem (zL base ρ F o0 c0 h S) ρ F o0 c0 h→dh c0 ρ F h args dJ→E.tc base g dJ h=none) (hb:fn.body=some code) (hlen:Nat.ble args.length fn.ntmps=true)
 (dk:List Nat) (hw:wp T (VC E) fn.ntmps c0 dk code (qd 0 args) o0 c0 (J0 T c0 fn.results.toList R)):VC E g c0 args o0 R:=by
 intro base ρ F h S0 dJ HN H HO KA;obtain⟨S,hn⟩:=BS KA (az.1 hlen);obtain⟨ex,tA,h',f',o',c',ρ',F',⟨n0,hr⟩,hq,M',S',Nv⟩:=V9 (X:=zL base ρ F o0 c0 h S0) L HN code hw H S hn;unfold J0 at hq
 have fin:∀{vs:List TV} {sh:List Nat} {ids:List (Option Nat)} {U:List Nat} {r:TV} {o1:Ob},(ex= .normal∨ex= .ret)→Bj T f' o' fn.results.toList=some vs→(gD c' ids&&mW c0 0 ids&&ko ids U)=true→Vo ids (bQ sh o') (RC vs) r→Fi ids (bQ sh o') U o1→R r o1 ids.length→
  ∃n v h2 ρ' F' r o' c',e6 E base n g dJ h=some (v,h2)∧R r o' c'∧Mem (zL base ρ F o0 c0 h S0) ρ' F' o' c' h2∧VR c' ρ' F' h2 r v:=by
  intro vs sh ids U r o1 hex Nf hi hle hO hR;simp only[Bool.and_eq_true]at hi;obtain⟨xs,k1,k2⟩:=vp L M' S' Nf;obtain⟨F1,S1⟩:=iD M' sh;have M2:=S1.mem.le hi.1.1 hi.1.2 hi.2 hO;refine⟨n0,cz xs,h',_,F1,r,o1,ids.length,?_,hR,M2,nS S1.mem _ _ _ hle (S1.bd _ _ (Ol k2))⟩;unfold e6 fR;rw[hf];simp only[Option.bind_some,ho _ _ _ _ _ _ H KA,hb,←KA.1,hlen,bp];have jM:=hr n0 (Nat.le_refl _);have Ay:aS E base n0 code (AF.enter dJ fn.ntmps) h=some (ex,tA,h'):=jM;rw[Ay];rcases hex with rfl |rfl<;>simp[k1]
 cases ex with
 |exit id=>exact hq.elim
 |normal=>
  simp only at hq;split at hq
  ·rename_i vs Nf;obtain⟨sh,ids,U,r,o1,⟨hle,hO,hi⟩,hR⟩:=hq;exact fin (.inl rfl) Nf hi hle hO hR
  ·exact hq.elim
 |ret=>
  simp only at hq;split at hq
  ·rename_i vs Nf;obtain⟨sh,ids,U,r,o1,⟨hle,hO,hi⟩,hR⟩:=hq;exact fin (.inr rfl) Nf hi hle hO hR
  ·exact hq.elim
theorem VC.enter (L:bR T E) {g:FuncId} {fn:Func} {code:Code} {c0:Nat} {args:List TV} {o0:Ob} {R:TV→Ob→Nat→Prop} (hf:E.func g=some fn) (ho:∀b a,E.tc b g a=fun _=>none) (hb:fn.body=some code) (hlen:Nat.ble args.length fn.ntmps=true)
 (dk:List Nat) (hw:wp T (VC E) fn.ntmps c0 dk code (qd 0 args) o0 c0 (J0 T c0 fn.results.toList R)):VC E g c0 args o0 R:=
 VC.Sg L hf (fun _ _ _ _ _ _ _ _=>congrFun (ho _ _) _) hb hlen dk hw
theorem VC.mono {g:FuncId} {c0:Nat} {args:List TV} {o0:Ob} {R R':TV→Ob→Nat→Prop} (H:VC E g c0 args o0 R) (hR:∀r o c,R r o c→R' r o c):VC E g c0 args o0 R':=by
 intro base ρ F h S dJ hN hM hO hA;obtain⟨n,v,h',ρ',F',r,o',c',h1,h2,h3⟩:=H base ρ F h S dJ hN hM hO hA;exact⟨n,v,h',ρ',F',r,o',c',h1,hR _ _ _ h2,h3⟩
theorem VC.tc {g:FuncId} {c0:Nat} {args:List TV} {o0:Ob} {v:Value} (hf:(E.func g).isSome=true) (ho:∀b a h,a.length=args.length→E.tc b g a h=some (v,h)) (hp:ar v=true):VC E g c0 args o0 (fun r o c=>r= .s v∧o=o0∧c=c0):=by
 intro base ρ F h S dJ hN hM hO hA;obtain⟨fn,hf⟩:=Option.isSome_iff_exists.1 hf;refine⟨0,v,h,ρ,F,.s v,o0,c0,?_,⟨rfl,rfl,rfl⟩,hM,.s hp⟩;unfold e6 fR;rw[hf];simp only[Option.bind_some,ho _ dJ h hA.1.symm]
end
section
variable {E:Env}
def KB (sub:TypeId→Option (List Nat)) (E:Env):List Field→Nat→Option (List Nat)
 |[],_=>some []
 |f::fs,off=>bp (f.name != "_"&&Nat.beq f.offset off)<|(sub f.type).bind fun ks=>(dU E f.type).bind fun s=>bp (Nat.beq s.2 ks.length)<|(KB sub E fs (off+ks.length)).bind fun r=>some (ks++r)
def Uv (E:Env):Nat→TypeId→Option (List Nat)
 |0,_=>none
 |d+1,t=>(E.desc t).bind fun ds=>match ds with
  | .bool=>some [1]
  | .int k=>some [gQ k]
  | .string=>some [2]
  | .struct fields=>bp (E.pI t) (KB (Uv E d) E fields.toList 0)
  |_=>none
def kx:List Nat→List Value→List Value→Option Bool
 |[],[],[]=>some true
 |k::ks,v::l,w::m=>(match Nat.blt 0 k&&Nat.beq (aQ v) k&&Nat.beq (aQ w) k with
  |true=>(match kx ks l m with|some r=>some (GU v w&&r)|none=>none)
  |false=>none)
 |_,_,_=>none
theorem KD:∀{zs:List Value} {xs ys:List TV} {r:Bool},kl zs xs ys=some r→kx (zs.map aQ) (xs.map RO) (ys.map RO)=some r
 |[],[],[],r,h=>by simpa[kl,kx]using h
 |[],[],_::_,r,h=>by simp[kl]at h
 |[],x::l,ys,r,h=>by simp[kl]at h
 |z::zs,[],ys,r,h=>by simp[kl]at h
 |z::zs,x::l,[],r,h=>by cases x<;>simp[kl]at h
 |z::zs,x::l,y::m,r,h=>by
  cases x<;>try(simp[kl]at h;done)
  rename_i v;cases y<;>try(simp[kl]at h;done)
  rename_i w;simp only[kl]at h;simp only[List.map_cons,kx];cases hc:(Nat.blt 0 (aQ z)&&Nat.beq (aQ v) (aQ z)&&Nat.beq (aQ w) (aQ z))with
  |false=>rw[hc]at h;cases h
  |true=>
   rw[hc]at h;simp only at h;cases hq:kl zs l m with
   |none=>rw[hq]at h;cases h
   |some r'=>
    rw[hq]at h;have kB:(Nat.blt 0 (aQ z)&&Nat.beq (aQ (RO (.s v))) (aQ z)&&Nat.beq (aQ (RO (.s w))) (aQ z))=true:=hc;rw[kB,KD hq];exact h
theorem sV:∀{ks Qt:List Nat} {l l' m m':List Value},l.length=ks.length→m.length=ks.length→kx (ks++Qt) (l++l') (m++m')=(kx ks l m).bind fun a=>(kx Qt l' m').bind fun b=>some (a&&b)
 |[],Qt,[],l',[],m',_,_=>by simp[kx]
 |k::ks,Qt,v::l,l',w::m,m',h1,h2=>by
  simp only[List.cons_append,kx];rw[sV (by simpa using h1) (by simpa using h2)];split
  ·cases kx ks l m<;>cases kx Qt l' m'<;>simp[Bool.and_assoc]
  ·rfl
 |[],_,_::_,_,_,_,h1,_=>by simp at h1
 |[],_,[],_,_::_,_,_,h2=>by simp at h2
 |_::_,_,[],_,_,_,h1,_=>by simp at h1
 |_::_,_,_::_,_,[],_,_,h2=>by simp at h2
theorem vq:∀{ks:List Nat} {l m:List Value} {r:Bool},kx ks l m=some r→l.length=ks.length∧m.length=ks.length
 |[],[],[],r,_=>⟨rfl,rfl⟩
 |[],[],_::_,r,h=>by simp[kx]at h
 |[],_::_,_,r,h=>by simp[kx]at h
 |_::_,[],_,r,h=>by simp[kx]at h
 |_::_,_::_,[],r,h=>by simp[kx]at h
 |k::ks,v::l,w::m,r,h=>by
  simp only[kx]at h;split at h
  ·split at h
   ·rename_i hq;obtain⟨h1,h2⟩:=vq hq;exact⟨by simp[h1],by simp[h2]⟩
   ·cases h
  ·cases h
def Si (agg:Bool) (l:List Value):Value:=match agg,l with
 |true,l=>.agg l.toArray
 |false,v::_=>v
 |false,[]=>undef
theorem KE (k:IntKind):3≤gQ k:=by cases k<;>simp[gQ]
theorem BT {k k':IntKind} (h:gQ k=gQ k'):k=k':=by cases k<;>cases k'<;>simp[gQ]at h<;>rfl
theorem KF:∀(d:Nat) {t:TypeId} {ks:List Nat} {l m:List Value} {r:Bool},Uv E d t=some ks→kx ks l m=some r→∃ds,E.desc t=some ds∧
 (∀s,dU E t=some s→s.1=isAgg ds)∧td E d t (Si (isAgg ds) l) (Si (isAgg ds) m)=some r
 |0,t,ks,l,m,r,h,_=>by simp[Uv]at h
 |d+1,t,ks,l,m,r,h,hv=>by
  unfold Uv at h;simp only[Option.bind_eq_some_iff]at h;obtain⟨ds,h1,h2⟩:=h;have hl:=vq hv;have Sj:∀{k:Nat},ks=[k]→isAgg ds=false→(∀v w:Value,aQ v=k→aQ w=k→td E (d+1) t v w=some (GU v w))→∃ds,E.desc t=some ds∧(∀s,dU E t=some s→s.1=isAgg ds)∧td E (d+1) t (Si (isAgg ds) l) (Si (isAgg ds) m)=some r:=by
   rintro k rfl ha hq;refine⟨ds,h1,fun s hs=>?_,?_⟩
   ·unfold dU at hs;rw[h1]at hs;simp only[Option.bind_some,ha,cond_false,Option.some.injEq]at hs;subst hs;exact ha.symm
   ·rw[ha]
    match l,m,hl with
    |[v],[w],_=>
     simp only[kx]at hv;split at hv
     ·rename_i hc;simp only[Bool.and_eq_true,beq_iff]at hc;simp only[Bool.and_true]at hv;rw[←hv];exact hq v w hc.1.2 hc.2
     ·cases hv
  split at h2
  ·cases h2;refine Sj rfl rfl fun v w hk nN=>?_;cases v<;>simp[aQ]at hk<;>try(rename_i i _;cases i<;>simp[gQ]at hk;done)
   cases w<;>simp[aQ]at nN<;>try(rename_i i _;cases i<;>simp[gQ]at nN;done)
   simp[td,h1,GU]
  ·rename_i k;cases h2;refine Sj rfl rfl fun v w hk nN=>?_;have hp:=KE k;cases v<;>simp[aQ]at hk<;>try omega
   cases w<;>simp[aQ]at nN<;>try omega
   rw[BT hk,BT nN];simp[td,h1,GU]
  ·cases h2;refine Sj rfl rfl fun v w hk nN=>?_;cases v<;>simp[aQ]at hk<;>try(rename_i i _;cases i<;>simp[gQ]at hk;done)
   cases w<;>simp[aQ]at nN<;>try(rename_i i _;cases i<;>simp[gQ]at nN;done)
   simp[td,h1,GU]
  ·rename_i fields;rw[aj]at h2;obtain⟨he,hF⟩:=h2;refine⟨_,h1,fun s hs=>?_,?_⟩
   ·unfold dU at hs;rw[h1]at hs;simp only[Option.bind_some,isAgg,cond_true,Option.bind_eq_some_iff]at hs;obtain⟨n,_,h4⟩:=hs;cases h4;rfl
   ·have key:∀(fs:List Field) (off:Nat) (ks:List Nat) (l0 m0 l m:List Value) (r:Bool),KB (Uv E d) E fs off=some ks→l0.length=off→m0.length=off→kx ks l m=some r→C3 (mH E) (td E d) (l0++l) (m0++m) fs=some r:=by
     intro fs
     induction fs with
     |nil=>
      intro off ks l0 m0 l m r hc _ _ hv;simp[KB]at hc;subst hc;cases l<;>cases m<;>simp[kx]at hv;simp[C3,hv]
     |cons f fs ih=>
      intro off ks l0 m0 l m r hc tI C6 hv;simp only[KB,aj,Bool.and_eq_true,beq_iff,Option.bind_eq_some_iff,Option.some.injEq]at hc;obtain⟨⟨hn,Sl⟩,k1,Ho,s,hs,eY,k2,Om,rfl⟩:=hc;obtain⟨CU,AN⟩:=vq hv;rw[List.length_append]at CU AN;have el:l=l.take k1.length++l.drop k1.length:=(List.take_append_drop _ _).symm;have em:m=m.take k1.length++m.drop k1.length:=(List.take_append_drop _ _).symm;have tl:(l.take k1.length).length=k1.length:=by simp;omega
      have tm:(m.take k1.length).length=k1.length:=by simp;omega
      rw[el,em,sV tl tm]at hv;simp only[Option.bind_eq_some_iff,Option.some.injEq]at hv;obtain⟨r1,mC,r2,Ay,rfl⟩:=hv;obtain⟨ds',_,Wi,RP⟩:=KF d Ho mC;generalize isAgg ds'=agg at Wi RP;have AA:=Wi s hs;have part:∀(x0 x:List Value),x0.length=off→k1.length≤x.length→mH E f.type (x0++x) f.offset=some (Si agg (x.take k1.length)):=by
       intro x0 x pV hx;unfold mH;rw[hs];simp only[Option.bind_some];rw[Sl,←pV,List.drop_left,eY];have ht:takeN k1.length x=some (x.take k1.length):=by rw[aM];exact⟨hx,rfl⟩
       rw[ht,AA];cases agg with
       |true=>rfl
       |false=>
        have:s.2=1:=by
         obtain⟨a,n⟩:=s;simp only at AA;subst AA;unfold dU at hs;simp only[Option.bind_eq_some_iff]at hs;obtain⟨dd,_,h5⟩:=hs;cases Vh:isAgg dd with
         |true=>
          rw[Vh]at h5;simp only[cond_true,Option.bind_eq_some_iff]at h5;obtain⟨_,_,h6⟩:=h5;cases h6
         |false=>rw[Vh]at h5;cases h5;rfl
        have hk:k1.length=1:=by omega
        rw[hk]at hx ⊢
        match x,hx with
        |v::x',_=>simp[ck,Si]
      simp only[C3,aj];refine⟨hn,?_⟩;rw[part l0 l tI om,part m0 m C6 om];simp only[Option.bind_some,RP];have:=ih (off+k1.length) k2 (l0++l.take k1.length) (m0++m.take k1.length) (l.drop k1.length) (m.drop k1.length) r2 Om (by rw[List.length_append,tI,tl]) (by rw[List.length_append,C6,tm]) Ay;rw[List.append_assoc,List.append_assoc,←el,←em]at this;cases r1 with
      |true=>simp only[Bool.true_and];exact this
      |false=>rfl
    have:=key fields.toList 0 ks [] [] l m r hF rfl rfl hv;simp only[List.nil_append]at this;show td E (d+1) t (.agg l.toArray) (.agg m.toArray)=some r;unfold td;rw[h1];simp only[Option.bind_some,aj];exact⟨he,this⟩
  ·cases h2
def rQ:List Nat→List Nat→Bool
 |[],[]=>true
 |a::l,b::m=>Nat.beq a b&&rQ l m
 |_,_=>false
theorem xQ:∀{a b:List Nat},rQ a b=true→a=b
 |[],[],_=>rfl
 |[],_::_,h=>by simp[rQ]at h
 |_::_,[],h=>by simp[rQ]at h
 |x::a,y::b,h=>by
  simp only[rQ,Bool.and_eq_true,beq_iff]at h;rw[h.1,xQ h.2]
def FJ (E:Env) (t:TypeId):Bool:=E.pI t&&(match E.desc t,Uv E 100 t,E.zero t with
 |some d,some ks,some (.agg a)=>isAgg d&&rQ (a.toList.map aQ) ks
 |_,_,_=>false)
theorem vt {n:Nat}:∀{l:List Nat},kO n l=true→n∈l
 |[],h=>by simp[kO]at h
 |m::l,h=>by
  unfold kO at h;split at h
  ·rename_i e;rw[beq_iff]at e;simp[e]
  ·exact List.mem_cons_of_mem _ (vt h)
def tES (E:Env) (l st:List Nat):Env:={E with pI:=fun t=>kO t l,still:=fun g=>kO g st}
def tE (E:Env) (l:List Nat):Env:=tES E l []
theorem So {l st:List Nat} (hz:∀t z,E.zero t=some z→ey z=true) (hl:l.all (FJ E)=true) (bU:∀g,kO g st=true→DF E g):bR (tES E l st) E:=by
 refine⟨fun _ _ h=>h,fun _ _ h=>h,fun _ _ h=>h,fun t z h=>⟨h,hz t z h⟩,fun t a b z xs ys r he hzt hr ha hb=>?_,fun _ _ h=>h,bU⟩;have gm:=List.all_eq_true.1 hl t (vt he);unfold FJ at gm;simp only[Bool.and_eq_true]at gm;obtain⟨h1,h2⟩:=gm;refine⟨h1,?_⟩;have ZH:E.zero t=some z:=hzt;split at h2
 ·rename_i dd ks a0 hd hk AH;simp only[Bool.and_eq_true]at h2;rw[ZH,Option.some.injEq]at AH;subst AH;have xi:=xQ h2.2;have hv:=KD hr;simp only[Value.cells]at hv;rw[xi,←ha,←hb]at hv;obtain⟨ds,cQ,_,RP⟩:=KF 100 hk hv;rw[hd]at cQ;cases cQ;rw[h2.1]at RP;simpa[Si]using RP
 ·cases h2
theorem Qu {l:List Nat} (hz:∀t z,E.zero t=some z→ey z=true) (hl:l.all (FJ E)=true):bR (tE E l) E:=So hz hl fun g h=>by simp[kO]at h
end
def ints (l:List Int):List (List TV):=l.map fun n=>[.s (.int .i64 n)]
inductive Sh where
 |bool
 |int (k:IntKind)
 |str
 |sl (e:List Sh)
mutual
def Fit:Sh→TV→Prop
 | .bool,t=>∃b,t= .s (.bool b)
 | .int k,t=>∃n,k.min≤n∧n≤k.max∧t= .s (.int k n)
 | .str,t=>∃s:ByteArray,s.size≤maxLen∧t= .s (.string s)
 | .sl e,t=>∃es:List (List TV),es.length≤maxLen∧(∀r∈es,Fits e r)∧t= .sl e.length es false
def Fits:List Sh→List TV→Prop
 |[],l=>l=[]
 |s::ss,l=>∃t r,l=t::r∧Fit s t∧Fits ss r
end
theorem Fit.fz {s:Sh} {t:TV} (h:Fit s t):M.fz t=true:=by
 cases s with
 |bool=>simp only[Fit]at h;obtain⟨b,rfl⟩:=h;rfl
 |int k=>simp only[Fit]at h;obtain⟨n,_,_,rfl⟩:=h;rfl
 |str=>simp only[Fit]at h;obtain⟨n,_,rfl⟩:=h;rfl
 |sl e=>simp only[Fit]at h;obtain⟨es,_,_,rfl⟩:=h;rfl
theorem Fits.fz:∀{ss:List Sh} {l:List TV},Fits ss l→∀t∈l,M.fz t=true
 |[],l,h,t,ht=>by simp only[Fits]at h;subst h;cases ht
 |s::ss,l,h,t,ht=>by
  simp only[Fits]at h;obtain⟨t0,r,rfl,h1,h2⟩:=h;rcases List.mem_cons.1 ht with rfl |ht
  ·exact h1.fz
  ·exact Fits.fz h2 t ht
theorem Fits.length:∀{ss:List Sh} {l:List TV},Fits ss l→l.length=ss.length
 |[],l,h=>by simp only[Fits]at h;subst h;rfl
 |s::ss,l,h=>by
  simp only[Fits]at h;obtain⟨t0,r,rfl,h1,h2⟩:=h;simp[Fits.length h2]
theorem Fits.append:∀{ss KG:List Sh} {l l':List TV},Fits ss l→Fits KG l'→Fits (ss++KG) (l++l')
 |[],KG,l,l',h,h'=>by simp only[Fits]at h;subst h;exact h'
 |s::ss,KG,l,l',h,h'=>by
  simp only[Fits]at h;obtain⟨t0,r,rfl,h1,h2⟩:=h;simp only[List.cons_append,Fits];exact⟨_,_,rfl,h1,Fits.append h2 h'⟩
def qw (P:Program) (f:TypeId→List Sh→Bool):List Field→Nat→List Sh→Bool
 |[],_,ss=>ss.isEmpty
 |x::xs,o,ss=>Nat.beq x.offset o&&Nat.ble (P.cellsOf x.type) ss.length&&f x.type (ss.take (P.cellsOf x.type))&&qw P f xs (o+P.cellsOf x.type) (ss.drop (P.cellsOf x.type))
def KH (f:List Sh→Bool) (z:Nat):Nat→List Sh→Bool
 |0,ss=>ss.isEmpty
 |n+1,ss=>Nat.ble z ss.length&&f (ss.take z)&&KH f z n (ss.drop z)
def Np (P:Program):Nat→TypeId→List Sh→Bool
 |0,_,_=>false
 |n+1,t,ss=>match P.underlying t with
  |some .bool=>(match ss with|[.bool]=>true|_=>false)
  |some (.int k)=>(match ss with|[.int k']=>decide (k'=k)|_=>false)
  |some .string=>(match ss with|[.str]=>true|_=>false)
  |some (.slice e)=>(match ss with|[.sl es]=>Nat.beq (P.cellsOf e) es.length&&Nat.blt 0 es.length&&Np P n e es|_=>false)
  |some (.struct fs)=>Nat.beq (P.cellsOf t) ss.length&&qw P (Np P n) fs.toList 0 ss
  |some (.array m e)=>Nat.beq (P.cellsOf t) ss.length&&KH (Np P n e) (P.cellsOf e) m ss
  |_=>false
structure AR (W:World) (μ:ba) (h:ah):Prop where
 high:∀b,h.size≤b→h.get b=none
 all:∀b,b<h.size→∃cs,h.get b=some (.cells cs b (b+1) 0)
 fy:∀b m,μ b=some m→b<h.size
 obj:∀b m,μ b=some m→∃cs c e fr,h.get b=some (.cells cs b (b+1) 0)∧W.heap[m.r]? =some (.cells c e fr)∧c.size=m.n∧m.s+cs.length≤m.n∧
  ∀(i:Nat) v,cs[i]? =some v→∃v',c[m.s+i]? =some v'∧an μ v v'
def Grown (h h':ah):Prop:=h.size≤h'.size∧∀b,b<h.size→h'.get b=h.get b
theorem Grown.refl (h:ah):Grown h h:=⟨Nat.le_refl _,fun _ _=>rfl⟩
theorem Grown.trans {a b c:ah} (h:Grown a b) (k:Grown b c):Grown a c:=⟨Nat.le_trans h.1 k.1,fun x hx=>by rw[k.2 x (Nat.lt_of_lt_of_le hx h.1),h.2 x hx]⟩
theorem AR.rd {W:World} {μ:ba} {h:ah} (_:AR W μ h) {b:Nat} {cs:List Value} (hg:h.get b=some (.cells cs b (b+1) 0)):h.rd b=some cs:=
 dq (bu hg hg) (Nat.zero_le _) (by unfold ah.cellsOf;rw[hg])
theorem AR.KI {W:World} {μ aK:ba} {h h':ah} (H:AR W μ h) (H':AR W aK h') (g:Grown h h') {b:Nat} {cs:List Value} (hb:b<h.size) (hr:h.rd b=some cs):h'.rd b=some cs:=by
 obtain⟨FD,hg⟩:=H.all b hb;have e:=H.rd hg;rw[hr]at e;cases e;exact H'.rd (by rw[g.2 b hb,hg])
theorem AR.tV {W:World} {μ aK:ba} {h h':ah} (H:AR W μ h) (H':AR W aK h') (g:Grown h h') {t:TV} {v:Value} (hv:VR 0 rA (· <h.size) h t v):VR 0 rA (· <h'.size) h' t v:=
 hv.mono (Nat.le_refl _) (fun _ _ _ hx=>hx) (fun _ _ hx=>hx) (fun _ hb=>Nat.lt_of_lt_of_le hb g.1) fun _ _ hb hr=>H.KI H' g hb hr
def Laid (W:World) (ss:List Sh) (cs:List Value):Prop:=∀μ h,AR W μ h→∃aK h' xR vs,AR W aK h'∧μ.le aK∧Grown h h'∧Fits ss xR∧dh 0 rA (· <h'.size) h' xR vs∧aq aK vs cs
theorem Laid.nil (W:World):Laid W [] []:=fun μ h H=>⟨μ,h,[],[],H,μ.le_refl,.refl h,by simp[Fits],.nil,.nil⟩
theorem Laid.append {W:World} {ss KG:List Sh} {cs cs':List Value} (h1:Laid W ss cs) (h2:Laid W KG cs'):Laid W (ss++KG) (cs++cs'):=by
 intro μ h H;obtain⟨e7,k1,t1,v1,H1,l1,g1,f1,r1,x1⟩:=h1 μ h H;obtain⟨su,k2,t2,v2,H2,l2,g2,f2,r2,x2⟩:=h2 e7 k1 H1;exact⟨su,k2,t1++t2,v1++v2,H2,ba.le_trans l1 l2,g1.trans g2,f1.append f2,(r1.oH fun _ _ hv=>H1.tV H2 g2 hv).append r2,(x1.mono l2).append x2⟩
theorem Laid.scalar {W:World} {s:Sh} {v:Value} (hp:ar v=true) (hf:Fit s (.s v)):Laid W [s] [v]:=fun μ h H=>
 ⟨μ,h,[.s v],[v],H,μ.le_refl,.refl h,by simp only[Fits];exact⟨_,_,rfl,hf,rfl⟩,.cons (.s hp) .nil,.cons (.lit hp) .nil⟩
theorem Laid.rows {W:World} {e:List Sh}:∀{rows:List (List Value)},(∀r∈rows,Laid W e r)→∀μ h,AR W μ h→∃(aK:ba) (h':ah) (es:List (List TV)) (vs:List Value),AR W aK h'∧μ.le aK∧Grown h h'∧es.length=rows.length∧(∀r∈es,Fits e r)∧
 dh 0 rA (· <h'.size) h' es.flatten vs∧aq aK vs rows.flatten
 |[],_,μ,h,H=>⟨μ,h,[],[],H,μ.le_refl,.refl h,rfl,by simp,.nil,.nil⟩
 |r::rows,hr,μ,h,H=>by
  obtain⟨e7,k1,t1,v1,H1,l1,g1,f1,r1,x1⟩:=hr r List.mem_cons_self μ h H;obtain⟨su,k2,es,v2,H2,l2,g2,n2,f2,r2,x2⟩:=Laid.rows (rows:=rows) (fun r' h'=>hr r' (List.mem_cons_of_mem _ h')) e7 k1 H1;refine⟨su,k2,t1::es,v1++v2,H2,ba.le_trans l1 l2,g1.trans g2,by simp[n2],?_,?_,?_⟩
  ·intro r' jM;rcases List.mem_cons.1 jM with rfl |jM
   ·exact f1
   ·exact f2 r' jM
  ·rw[List.flatten_cons];exact(r1.oH fun _ _ hv=>H1.tV H2 g2 hv).append r2
  ·rw[List.flatten_cons];exact(x1.mono l2).append x2
theorem vu {α:Type} {z:Nat}:∀{es:List (List α)},(∀e∈es,e.length=z)→∀(i j:Nat) e t,es[i]? =some e→e[j]? =some t→es.flatten[i*z+j]? =some t
 |[],_,i,j,e,t,h,_=>by simp at h
 |e0::es,hz,i,j,e,t,h,k=>by
  rw[List.flatten_cons];have h0:=hz e0 List.mem_cons_self;cases i with
  |zero=>
   simp at h;subst h;have:j<e0.length:=(List.getElem?_eq_some_iff.1 k).1;rw[Nat.zero_mul,Nat.zero_add,List.getElem?_append_left this,k]
  |succ i=>
   rw[List.getElem?_append_right (by rw[h0,Nat.succ_mul];omega),h0,show(i+1)*z+j - z=i*z+j by rw[Nat.succ_mul];omega];exact vu (fun e' h'=>hz e' (List.mem_cons_of_mem _ h')) i j e t (by simpa using h) k
theorem BU {α:Type} {z:Nat}:∀{es:List (List α)},(∀e∈es,e.length=z)→es.flatten.length=es.length*z
 |[],_=>by simp
 |e0::es,hz=>by
  rw[List.flatten_cons,List.length_append,BU (fun e' h'=>hz e' (List.mem_cons_of_mem _ h')),hz e0 List.mem_cons_self,List.length_cons,Nat.succ_mul];omega
theorem AR.push {W:World} {μ:ba} {h:ah} (H:AR W μ h) {vs cs:List Value} (hv:aq μ vs cs) {r s:Nat} {c:Array Value} {e:TypeId} {fr:Nat×Nat} (hr:W.heap[r]? =some (.cells c e fr))
 (hle:s+cs.length≤c.size) (hc:∀(i:Nat) v,cs[i]? =some v→c[s+i]? =some v):
 AR W (fun b=>if b=h.size then some ⟨r,s,c.size⟩else μ b) (h.push (.cells vs h.size (h.size+1) 0))∧μ.le (fun b=>if b=h.size then some ⟨r,s,c.size⟩else μ b):=by
 have Sp:μ.le (fun b=>if b=h.size then some ⟨r,s,c.size⟩else μ b):=fun b m hb=>by
  have:=H.fy b m hb;show(if b=h.size then _ else _)=_;rw[if_neg om,hb]
 refine⟨⟨fun b hb=>?_,fun b hb=>?_,fun b m hb=>?_,fun b m hb=>?_⟩,Sp⟩
 ·rw[ah.size_push]at hb;rw[ah.ak,if_neg om];exact H.high b om
 ·rw[ah.size_push]at hb;rw[ah.ak];by_cases e:b=h.size
  ·rw[if_pos e,e];exact⟨_,rfl⟩
  ·rw[if_neg e];exact H.all b om
 ·rw[ah.size_push];by_cases e:b=h.size
  ·omega
  ·rw[if_neg e]at hb;have:=H.fy b m hb;omega
 ·by_cases e:b=h.size
  ·rw[if_pos e]at hb;cases hb;refine⟨vs,c,_,_,by rw[ah.ak,if_pos e,e],hr,rfl,by rw[hv.length];exact hle,fun i v hi=>?_⟩;obtain⟨v',h1,h2⟩:=hv.get hi;exact⟨v',hc i v' h1,h2.mono Sp⟩
  ·rw[if_neg e]at hb;obtain⟨FD,c0,e0,Sr,q1,q2,q3,q4,q5⟩:=H.obj b m hb;exact⟨FD,c0,e0,Sr,by rw[ah.ak,if_neg e];exact q1,q2,q3,q4,fun i v hi=>let⟨v',h1,h2⟩:=q5 i v hi;⟨v',h1,h2.mono Sp⟩⟩
theorem AR.dummy {W:World} {μ:ba} {h:ah} (H:AR W μ h):AR W μ (h.push (.cells [] h.size (h.size+1) 0)):=by
 refine⟨fun b hb=>?_,fun b hb=>?_,fun b m hb=>?_,fun b m hb=>?_⟩
 ·rw[ah.size_push]at hb;rw[ah.ak,if_neg om];exact H.high b om
 ·rw[ah.size_push]at hb;rw[ah.ak];by_cases e:b=h.size
  ·rw[if_pos e,e];exact⟨_,rfl⟩
  ·rw[if_neg e];exact H.all b om
 ·rw[ah.size_push];have:=H.fy b m hb;omega
 ·have:=H.fy b m hb;obtain⟨FD,c0,e0,Sr,q1,q2,q3,q4,q5⟩:=H.obj b m hb;exact⟨FD,c0,e0,Sr,by rw[ah.ak,if_neg om];exact q1,q2,q3,q4,q5⟩
theorem po {h:ah} (o:ew):Grown h (h.push o):=⟨by rw[ah.size_push];omega,fun b hb=>by rw[ah.ak,if_neg om]⟩
theorem Laid.slice {W:World} {e:List Sh} (he:0<e.length) {a:Addr} {len cap:Nat} (GD:len≤cap) (fG:cap≤maxLen) {base:Nat}
 (gm:∀i,i<cap→∃r,W.cells? base (a.add (i*e.length)) e.length=some r∧(i<len→Laid W e r)):Laid W [.sl e] [.slice (some a) len cap]:=by
 intro μ h H;by_cases h0:cap=0
 ·subst h0;have:len=0:=by omega
  subst this;have H':=H.dummy;refine⟨μ,_,[.sl e.length [] false],[.slice (some ⟨h.size,0,some e.length⟩) 0 0],H',μ.le_refl,po _,?_,.cons ?_ .nil,.cons (.cA fun h=>absurd rfl h) .nil⟩
  ·simp only[Fits,Fit];exact⟨_,_,rfl,⟨[],by simp,by simp,rfl⟩,rfl⟩
  ·refine .sl (b:=h.size) (o:=0) (cs:=[]) (by rw[ah.size_push];omega) ?_ he rfl (Nat.le_refl _) (fun _=>rfl) (by simp) (by simp) (by simp) (by simp);exact H'.rd (by rw[ah.ak,if_pos rfl])
 ·-- the row
  have Jv:∀i,i<cap→∀j,j<e.length→∃r,W.cells? base (a.add (i*e.length)) e.length=some r∧r.length=e.length∧W.cell? ((a.add (i*e.length)).add j)=r[j]? :=by
   intro i hi j hj;obtain⟨r,hr,_⟩:=gm i hi;obtain⟨_,h2,h3⟩:=World.cells?_some hr;exact⟨r,hr,h2,h3 j hj⟩
  have ZI:∀k j,((a.add k).add j).block=a.block:=by intro k j;unfold Addr.add;split<;>split<;>rfl
  have Sl:∀k j,((a.add k).add j).off=a.off+k+j:=by
   intro k j;unfold Addr.add;split<;>split<;>(try simp only[])<;>omega
  have Uf:((a.add (0*e.length)).add 0)=a:=by rw[Nat.zero_mul];rfl
  obtain⟨c,ty,fr,hW,KJ⟩:∃c ty fr,W.heap[a.block]? =some (.cells c ty fr)∧a.spot=none:=by
   obtain⟨r,hr,h2,h3⟩:=Jv 0 om 0 he;rw[Uf]at h3;have:r[0]? =some r[0]:=List.getElem?_eq_getElem om;rw[this]at h3;unfold World.cell? at h3;split at h3
   ·rename_i c ty fr hc;split at h3
    ·cases h3
    ·rename_i hs;exact⟨c,ty,fr,hc,by simpa using hs⟩
   ·cases h3
  have Su:∀k j,((a.add k).add j).spot=none:=by
   intro k j;unfold Addr.add;split<;>split<;>simp[KJ]
  have dL:∀i,i<cap→∀r,W.cells? base (a.add (i*e.length)) e.length=some r→r.length=e.length∧∀(j:Nat) v,r[j]? =some v→c[a.off+i*e.length+j]? =some v:=by
   intro i hi r hr;obtain⟨_,h2,h3⟩:=World.cells?_some hr;refine⟨h2,fun j v hv=>?_⟩;have hj:j<e.length:=by rw[←h2];exact(List.getElem?_eq_some_iff.1 hv).1
   have:=h3 j hj;unfold World.cell? at this;rw[ZI,hW,Su,Sl,hv]at this;simpa using this
  have EX:a.off+cap*e.length≤c.size:=by
   obtain⟨r,hr,_⟩:=gm (cap - 1) om;obtain⟨h2,h3⟩:=dL _ om r hr;have h4:=h3 (e.length - 1) r[e.length - 1] (List.getElem?_eq_getElem om);have h5:=(Array.getElem?_eq_some_iff.1 h4).1;have:cap*e.length=(cap - 1)*e.length+e.length:=by rw[←Nat.succ_mul];congr 1;omega
   omega
  -- the elements
  let rows:=(List.range len).map fun i=>(W.cells? base (a.add (i*e.length)) e.length).getD []
  have KK:∀i,i<len→rows[i]? =W.cells? base (a.add (i*e.length)) e.length:=by
   intro i hi;obtain⟨r,hr,_⟩:=gm i om;simp only[rows,List.getElem?_map,List.getElem?_range hi,Option.map_some,hr,Option.getD_some]
  have hlen:rows.length=len:=by simp[rows]
  have hz:∀r∈rows,r.length=e.length:=by
   intro r hr;obtain⟨i,hi,rfl⟩:=List.mem_iff_getElem.1 hr;have wF:i<len:=by omega
   obtain⟨r',jM,_⟩:=gm i om;have:=KK i wF;rw[jM,List.getElem?_eq_getElem hi]at this;cases this;exact(dL i om _ jM).1
  have hL:∀r∈rows,Laid W e r:=by
   intro r hr;obtain⟨i,hi,rfl⟩:=List.mem_iff_getElem.1 hr;have wF:i<len:=by omega
   obtain⟨r',jM,hl⟩:=gm i om;have:=KK i wF;rw[jM,List.getElem?_eq_getElem hi]at this;cases this;exact hl wF
  obtain⟨e7,k1,es,vs,H1,l1,g1,n1,f1,r1,x1⟩:=Laid.rows hL μ h H;have pQ:=BU hz;have oz:∀(i:Nat) v,rows.flatten[i]? =some v→c[a.off+i]? =some v:=by
   intro i v hv;have hi:=(List.getElem?_eq_some_iff.1 hv).1;rw[pQ,hlen]at hi;have hq:i / e.length<len:=(Nat.div_lt_iff_lt_mul he).2 hi;have hm:i % e.length<e.length:=Nat.mod_lt _ he;have hdm:i / e.length*e.length+i % e.length=i:=by rw[Nat.mul_comm];exact Nat.div_add_mod _ _
   obtain⟨r',jM,_⟩:=gm (i / e.length) om;have h1:=KK _ hq;rw[jM]at h1;obtain⟨q1,q2⟩:=dL _ om r' jM;have h2:r'[i % e.length]? =some r'[i % e.length]:=List.getElem?_eq_getElem om;have h3:=vu hz _ _ _ _ h1 h2;rw[hdm,hv]at h3;cases h3;have:=q2 _ _ h2;rw[show a.off+i / e.length*e.length+i % e.length=a.off+i by omega]at this;exact this
  have hle:a.off+rows.flatten.length≤c.size:=by
   rw[pQ,hlen];have:=Nat.mul_le_mul_right e.length GD;omega
  obtain⟨H2,l2⟩:=H1.push x1 hW hle oz;have pU:∀r∈es,r.length=e.length:=fun r hr=>(f1 r hr).length;refine⟨_,_,[.sl e.length es false],[.slice (some ⟨k1.size,0,some e.length⟩) len cap],H2,ba.le_trans l1 l2,g1.trans (po _),?_,.cons ?_ .nil,.cons ?_ .nil⟩
  ·simp only[Fits,Fit];exact⟨_,_,rfl,⟨es,om,f1,rfl⟩,rfl⟩
  ·have P4:vs.length=len*e.length:=by rw[x1.length,pQ,hlen]
   refine .sl (b:=k1.size) (o:=0) (cs:=vs) (by rw[ah.size_push];omega) ?_ he om GD (fun h=>by cases h) om pU (fun r hr t ht=>(f1 r hr).fz t ht) ?_
   ·exact H2.rd (by rw[ah.ak,if_pos rfl])
   ·intro i j e' t v q1 q2 q3;have q4:=vu pU i j e' t q1 q2;rw[Nat.zero_add]at q3;exact H1.tV H2 (po _) (r1.2 _ _ _ q4 q3)
  ·have:an (fun b=>if b=k1.size then some (⟨a.block,a.off,c.size⟩:MT)else e7 b) (.slice (some ⟨k1.size,0,some e.length⟩) len cap) (.slice (some ⟨a.block,a.off+0,none⟩) len cap):=
    .slice (m:=⟨a.block,a.off,c.size⟩) (by simp) GD GD (fun h=>h) (by simpa using EX)
   have ha:(⟨a.block,a.off+0,none⟩:Addr)=a:=by
    cases a;simp only[]at KJ;subst KJ;rfl
   rw[ha]at this;exact this
end Go.M
