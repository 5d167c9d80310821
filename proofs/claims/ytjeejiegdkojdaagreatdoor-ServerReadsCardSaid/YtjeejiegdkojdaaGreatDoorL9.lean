/-
  Part 9 of the library that the proof leans on.
-/
import Derived.Test.YtjeejiegdkojdaaGreatDoorL8
import Derived.IntWalk
import Derived.DataReads
namespace Go.M
open Go
section
variable {T E:Env} {X:Cx} {ρ:Gh} {F:Nat→Prop} {o:Ob} {c:Nat} {af:AF} {f:Fr} {h:ab} {p:Oper} {K:OK}
theorem jk.Gp {canon:Option Value} (H:Mem X ρ F o c h) (R:jk c ρ F h o canon K) (hp:aM E af p=canon):eZ E X ρ F o c af h p K:=by
 obtain⟨v,x,h1,h2,h3⟩:=R;exact eZ.pure H (hp.trans h1) h2 h3
theorem RV (L:cm T E) (H:Mem X ρ F o c h) {t:TypeId} {x:TV} {xv:Value} (hw:V7 T t x o c K) (hx:VR c ρ F h x xv)
 (hp:∀d,E.desc t=some d→aM E af p=(match(generalizing:=false) d,xv with
  | .string,.string s=>some (goInt s.size)
  | .array n _,_=>some (goInt n)
  | .slice _,.slice _ n _=>some (goInt n)
  | .map _ _,.map none=>some (goInt 0)
  |_,_=>none))
 (hq:∀k e r,E.desc t=some (.map k e)→xv= .map (some r)→bL E af p=some (.len r)):eZ E X ρ F o c af h p K:=by
 unfold V7 at hw;split at hw
 ·rename_i hd;split at hw
  ·have:=hx.dj.1;subst this;exact eZ.pure H (hp _ (L.desc _ _ hd)) (.s rfl) hw
  ·exact hw.elim
 ·rename_i n e hd;exact eZ.pure H ((hp _ (L.desc _ _ hd)).trans (by cases xv<;>rfl)) (.s rfl) hw
 ·rename_i e hd;have arr:∀{m:Nat} {y:TO},look o m=some y→zK y=true→VR c ρ F h (.tk m) xv→K (.s (goInt (Er y))) o c .pure→eZ E X ρ F o c af h p K:=by
   intro m y hl hy hx hw;obtain⟨Sm,hO⟩:=H.b7 hl;have:∃a k,xv= .slice a (Er y) k:=by
    rcases hO.tk hy hx with⟨h0,_,rfl |⟨b,o',cs,_,_,_,_,rfl⟩⟩|⟨b,cap,_,_,rfl⟩
    ·rw[h0];exact⟨none,0,rfl⟩
    ·rw[h0];exact⟨_,0,rfl⟩
    ·exact⟨_,_,rfl⟩
   obtain⟨a,k,rfl⟩:=this;exact eZ.pure H (hp _ (L.desc _ _ hd)) (.s rfl) hw
  split at hw
  ·cases hx with
   |bg hb=>exact eZ.pure H (hp _ (L.desc _ _ hd)) (.s rfl) hw
  ·rename_i m;split at hw
   ·rename_i hl;exact arr hl rfl hx hw
   ·rename_i hl;exact arr hl rfl hx hw
   ·exact hw.elim
  ·cases hx with
   |nil h1=>subst h1;exact eZ.pure H (hp _ (L.desc _ _ hd)) (.s rfl) hw
   |sl q1 q2 q3 q4=>subst q4;exact eZ.pure H (hp _ (L.desc _ _ hd)) (.s rfl) hw
  ·rename_i m k;split at hw
   ·rename_i hl;obtain⟨YK,hK⟩:=hw;obtain⟨Sm,hO⟩:=H.b7 hl;cases hx with
    |pv Gj p5 ha h0=>
    have:∃a q,xv= .slice a k q:=by
     cases hO with
     |nil hb hz=>
      have Kp:k=0:=by simpa using YK
      subst Kp;rcases h0 _ hb with rfl |⟨b,o',cs,_,_,_,_,rfl⟩
      ·exact⟨none,0,rfl⟩
      ·exact⟨_,0,rfl⟩
     |arr hb hg hf ht dx jY cC mj gK hc hF=>
      obtain⟨cap,_,rfl⟩:=ha _ _ _ hb;exact⟨_,_,rfl⟩
    obtain⟨a,q,rfl⟩:=this;exact eZ.pure H (hp _ (L.desc _ _ hd)) (.s rfl) hK
   ·exact hw.elim
  ·exact hw.elim
 ·rename_i k e hd;split at hw
  ·have:=hx.dj.1;subst this;exact eZ.pure H (hp _ (L.desc _ _ hd)) (.s rfl) hw
  ·rename_i n;split at hw
   ·rename_i kn es hl;obtain⟨Sm,hO⟩:=H.b7 hl;cases hO with
    |map hb hg hlen hc bW=>
     rename_i b clock ev;cases hx with
     |mp bX=>
      rw[hb]at bX;cases bX;have CB:eR h b=some (ev,clock):=by unfold eR;rw[hg]
      have hE:uA c ρ F h kn es ev:=⟨hlen,hc⟩;refine jm.Gp (q:=.len b) (jm.same H (by simp[RQ.run,CB];rfl) (.s rfl) ?_ (.lu (.refl _) rfl hl (.inl hb) ⟨_,CB,hE.refl⟩)) (hp _ (L.desc _ _ hd)) (hq _ _ _ (L.desc _ _ hd) rfl);rw[←hlen];exact hw
   ·rename_i kn es hl;obtain⟨Sm,hO⟩:=H.b7 hl;cases hO with
    |eL hb hg bT hc bW=>
     rename_i Sq b clock ev;cases hx with
     |mp bX=>
      rw[hb]at bX;cases bX;have CB:eR h b=some (ev,clock):=by unfold eR;rw[hg]
      have hE:iN c ρ F h X.base kn Sq es ev:=hc;have hlen:es.length=ev.length:=by
       have key:∀{es:List (Value×TV)} {ev:List MapEntry} {S:Ft},iN c ρ F h X.base kn S es ev→es.length=ev.length:=by
        intro es ev S hE
        induction hE with
        |nil=>rfl
        |cons _ _ _ _ _ ih=>simp[ih]
       exact key hE
      refine jm.Gp (q:=.len b) (jm.same H (by simp[RQ.run,CB];rfl) (.s rfl) ?_ (.lu (.refl _) rfl hl (.inl hb) ⟨_,CB,hE.refl fun e he t ht=>.inr (bT e he t ht)⟩)) (hp _ (L.desc _ _ hd)) (hq _ _ _ (L.desc _ _ hd) rfl);rw[←hlen];exact hw
   ·exact hw.elim
  ·exact hw.elim
 ·exact hw.elim
theorem ja (L:cm T E) (N:kW T F h) (S:dA c ρ F h f af) {x:Operand} {l:List Operand} (lM:l.all (rJ T)=true) (hm:x∈l):∃v,ev E af x=some v∧VR c ρ F h (l9 T f x) v:=p8 L N S (List.all_eq_true.1 lM x hm)
theorem evO (L:cm T E) (N:kW T F h) (S:dA c ρ F h f af) {x:Option Operand} {l:List Operand} (lM:l.all (rJ T)=true) (hm:∀y,x=some y→y∈l):∃v,oT E af x=some v∧RB c ρ F h (Rr T f x) v:=by
 cases x with
 |none=>exact⟨none,rfl,.inl ⟨rfl,rfl⟩⟩
 |some y=>
  obtain⟨v,h1,h2⟩:=p8 (E:=E) L N S (List.all_eq_true.1 lM y (hm y rfl));exact⟨some v,by simp[oT,h1],.inr ⟨_,_,rfl,rfl,h2⟩⟩
theorem EE (L:cm T E) (H:Mem X ρ F o c h) {b:Builtin} {sU:Array Operand} {argTypes:Array TypeId} {args:List TV} {vs:List Value} {dst:Option Tmp} {ty:TypeId} {pos:String} {after:Array Edge} {guard:Option (Nat×Bool)}
 (hw:xz T b argTypes.toList args o c K) (hr:dI c ρ F h args vs) (he:Gt E af sU.toList=some vs):eZ E X ρ F o c af h ⟨dst,.call ⟨.builtin b,sU,argTypes⟩,ty,pos,after,guard⟩ K:=by
 have hp:aM E af ⟨dst,.call ⟨.builtin b,sU,argTypes⟩,ty,pos,after,guard⟩=pS E b argTypes.toList vs:=by simp only[aM,he,Option.bind_some]
 have cW:bf E af ⟨dst,.call ⟨.builtin b,sU,argTypes⟩,ty,pos,after,guard⟩=none:=rfl;have YL:da E X.base af ⟨dst,.call ⟨.builtin b,sU,argTypes⟩,ty,pos,after,guard⟩ h=(wi E X.base h b argTypes.toList vs).bind fun r=>some (.val r.1,r.2):=by simp only[da,he,Option.bind_some]
 have fP:b≠ .len→bL E af ⟨dst,.call ⟨.builtin b,sU,argTypes⟩,ty,pos,after,guard⟩=none:=fun hb=>by
  cases b<;>first|rfl |exact absurd rfl hb
 unfold xz at hw;split at hw
 ·rename_i t ts x xs oz;obtain⟨xv,m,rfl,h1,h2⟩:=hr.aP;refine RV L H hw h1 (fun d hd=>?_) (fun k e r hd hx=>?_)
  ·rw[hp,oz];simp only[pS,hd,Option.bind_some]
   try rfl
  ·subst hx;simp only[bL,oz,he,Option.bind_some,hd]
 ·rename_i st xt fl l oz;obtain⟨sv,m,rfl,h1,h2⟩:=hr.aP;obtain⟨xv,m',rfl,h3,h4⟩:=h2.aP;obtain rfl:=h4.bK;have hxv:=h3.dj.1;subst hxv;refine EB L H hw h1 (by rw[hp,oz];rfl) (fP (by simp)) cW fun v h' hh=>?_;rw[YL,oz];show(match bI E X.base h st xt sv (.int .i64 l)with|some r=>some r|none=>iF E h st xt sv (.int .i64 l)).bind _=_;have vh:bI E X.base h st xt sv (.int .i64 l)=none:=by
   unfold bI;cases E.desc st with
   |none=>rfl
   |some sd=>cases E.desc xt with
    |none=>rfl
    |some xd=>
     cases sd<;>try rfl
     rename_i elem;simp only[Option.bind_some];cases E.size elem<;>try rfl
     cases E.bytes elem<;>try rfl
     cases E.zero elem<;>rfl
  rw[vh,hh];rfl
 ·rename_i st xt s x _ oz;obtain⟨sv,m,rfl,h1,h2⟩:=hr.aP;obtain⟨xv,m',rfl,h3,h4⟩:=h2.aP;obtain rfl:=h4.bK;refine Hz L H hw h1 h3 (by rw[hp,oz];rfl) (fP (by simp)) cW fun v h' hh=>?_;rw[YL,oz];show(match bI E X.base h st xt sv xv with|some r=>some r|none=>iF E h st xt sv xv).bind _=_;rw[hh];rfl
 ·rename_i ts k x k' y;obtain⟨sv,m,rfl,h1,h2⟩:=hr.aP;obtain⟨xv,m',rfl,h3,h4⟩:=h2.aP;obtain rfl:=h4.bK;rw[h1.dj.1,h3.dj.1]at hp;exact eZ.pure H (x:=.int k (if y>x then y else x)) (by rw[hp];rfl) (.s rfl) hw
 ·rename_i ts k x k' y;obtain⟨sv,m,rfl,h1,h2⟩:=hr.aP;obtain⟨xv,m',rfl,h3,h4⟩:=h2.aP;obtain rfl:=h4.bK;rw[h1.dj.1,h3.dj.1]at hp;exact eZ.pure H (x:=.int k (if y<x then y else x)) (by rw[hp];rfl) (.s rfl) hw
 ·rename_i t ts fl oz;obtain⟨sv,m,rfl,h1,h2⟩:=hr.aP;obtain rfl:=h2.bK;split at hw
  ·rename_i e hd;have:sv= .slice none 0 0:=by
    cases h1 with
    |nil=>rfl
    |sl q1 q2 q3=>omega
   subst this;refine eZ.pure H (x:=goInt 0) ?_ (.s rfl) hw;rw[hp,oz];simp only[pS,L.desc _ _ hd,Option.bind_some]
  ·exact hw.elim
 ·rename_i t ts m k oz;obtain⟨mv,m1,rfl,h1,h2⟩:=hr.aP;obtain⟨kv,m',rfl,h3,h4⟩:=h2.aP;obtain rfl:=h4.bK;refine Hn L H hw h1 h3 (by rw[hp,oz];rfl) (fP (by simp)) cW ?_;rw[YL,oz];rfl
 ·rename_i t ts m i args oz;obtain⟨xv,m1,rfl,h1,h2⟩:=hr.aP;split at hw
  ·rename_i elem hd;split at hw
   ·rename_i zv z es hz hl;split at hw
    ·rename_i zs jy;split at hw
     ·rename_i hc;refine Ho L H hd hz hl jy hc hw h1 (by rw[hp,oz];rfl) (fP (by simp)) cW ?_;rw[YL,oz];rfl
     ·exact hw.elim
    ·exact hw.elim
   ·exact hw.elim
  ·exact hw.elim
 ·rename_i t ts n args oz;obtain⟨mv,m1,rfl,h1,h2⟩:=hr.aP;split at hw
  ·rename_i d kn es hd hl;refine Az H hl (.inl ⟨_,rfl⟩) hw h1 (by rw[hp,oz];rfl) (fP (by simp)) cW (by rw[L.desc _ _ hd];rfl) ?_ (t:=t);rw[YL,oz];rfl
  ·rename_i d kn es op hd hl;refine Az H hl (.inr ⟨_,_,rfl⟩) hw h1 (by rw[hp,oz];rfl) (fP (by simp)) cW (by rw[L.desc _ _ hd];rfl) ?_ (t:=t);rw[YL,oz];rfl
  ·exact hw.elim
 ·exact hw.elim
theorem EF (s:ByteArray):(D0 s).length=s.size:=by simp[D0]
theorem OC {c:Nat} {ρ:Gh} {F:Nat→Prop} {h:ab}:∀{ns:List Int} {vs:List Value},dI c ρ F h (iK ns).flatten vs→vs=ns.map (Value.int .u8)
 |[],vs,H=>H.bK
 |n::ns,vs,H=>by
  obtain⟨v,nB,rfl,h1,h2⟩:=H.aP;rw[h1.dj.1,OC h2];rfl
theorem Jl:∀ns:List Int,Na (ns.map (Value.int .u8))=some ns
 |[]=>rfl
 |n::ns=>by simp only[List.map_cons,Na,Jl ns,Option.bind_some]
theorem EG (L:cm T E) (H:Mem X ρ F o c h) {s d:TypeId} {x:TV} {xv:Value} (hw:xC T s d x o c K) (hx:VR c ρ F h x xv)
 (hp:aM E af p=qD E s d xv) (hq:bL E af p=none) (cW:bf E af p=none) (he:da E X.base af p h=(qV E X.base h s d xv).bind fun r=>some (.val r.1,r.2)):eZ E X ρ F o c af h p K:=by
 unfold xC at hw;split at hw
 ·rename_i v;have:=hx.dj.1;subst this;split at hw
  ·rename_i str e hd;split at hw
   ·rename_i sd ed hs hed;split at hw
    ·rename_i hu;have QX:aM E af p=none:=by rw[hp];simp[qD,L.desc _ _ hs,L.desc _ _ hd]
     have E1:ER c ρ F h 1 (D0 str) (fw str):=by
      refine⟨by simp[D0,fw],fun e he=>?_,fun e he t ht=>?_,fun i j e t v q1 q2 q3=>?_⟩
      ·simp only[D0,List.mem_map]at he;obtain⟨b,_,rfl⟩:=he;rfl
      ·simp only[D0,List.mem_map]at he;obtain⟨b,_,rfl⟩:=he;simp at ht;subst ht;rfl
      ·simp only[D0,List.getElem?_map,Option.map_eq_some_iff]at q1;obtain⟨b,q1,rfl⟩:=q1;cases j with
       |succ j=>simp at q2
       |zero=>
        simp at q2;subst q2;simp only[fw,List.getElem?_map,Nat.mul_one,Nat.add_zero,q1,Option.map_some,Option.some.injEq]at q3;subst q3;exact .s rfl
     obtain⟨M2,k2⟩:=H.Cp E1 om;refine eZ.du (x:=.slice (some ⟨h.size,0,some 1⟩) str.size (str.size+1)) (h':=h.push (.cells (fw str) h.size h.size 0)) H QX hq cW (by rw[he];simp[qV,L.desc _ _ hs,L.desc _ _ hd,L.desc _ _ hed,hu,bF,fresh]) ⟨M2,k2,by show h.size≤h.size+1;omega,fun _ hb=>hb,fun b cs hb hr=>(ew H.wf.le _ (H.I7 hb)).trans hr⟩ ?_ (fun m y hl hm=>?_) hw
     ·refine .tk om rfl (fun b z len hx=>?_) (fun z hx=>?_)
      ·rw[aI]at hx;cases hx;exact⟨str.size+1,by rw[EF];omega,by rw[EF]⟩
      ·rw[aI]at hx;cases hx
     ·have hmc:=H.lt hl;refine⟨⟨y,by rw[aN,if_neg (by simp only;omega)];exact hl⟩,by rw[bj _ _ om],fun b hb=>?_⟩;have:=H.xV hl hb;exact⟨by rw[ab.aq,if_neg om],fun cs hr=>by rw[ew H.wf.le _ this];exact hr⟩
    ·exact hw.elim
   ·exact hw.elim
  ·exact jk.Gp H (sO hw fun x hx=>Hh L hx) hp
 ·split at hw
  ·rename_i z es Du;split at hw
   ·rename_i e hd hs;split at hw
    ·rename_i ed hed;split at hw
     ·rename_i hc;simp only[Bool.and_eq_true,Bool.or_eq_true,beq_iff]at hc;obtain⟨hu,hz⟩:=hc;obtain⟨ns,rfl,hK⟩:=hw;obtain⟨hlen,_,_,kZ⟩:=py H Du (n:=1) (hz.imp id fun h=>⟨h,rfl⟩) (by simp) hx;obtain⟨a,cap,rfl⟩:∃a cap,xv= .slice a (iK ns).length cap:=by
       unfold mE at hlen;split at hlen
       ·cases hlen;exact⟨_,_,rfl⟩
       ·exfalso;unfold ZI at Du;split at Du
        ·cases hx with|tk _ h1=>simp[KA]at h1
        ·cases hx
        ·cases Du
       ·cases hlen
      have QX:aM E af p=none:=by rw[hp];simp[qD,L.desc _ _ hs,L.desc _ _ hd]
      have hce:qV E X.base h s d (.slice a (iK ns).length cap)=some (.string (strOf ns),h):=by
       simp only[qV,L.desc _ _ hs,L.desc _ _ hd,L.desc _ _ hed,hu,Option.bind_some,bF,bY,beq_iff];split
       ·rename_i h0;have:ns=[]:=by simpa[iK]using h0
        subst this;rfl
       ·rename_i h0;rcases kZ with h1|⟨new,h1,_,_,_,hV⟩
        ·rw[h1]at h0;simp at h0
        ·have e2:=OC (ns:=ns) (vs:=new) (by simpa[cD]using hV);rw[h1,e2];simp only[Option.bind_some,Jl]
      exact eZ.du H QX hq cW (by rw[he,hce];rfl) (.refl H) (.s rfl) (.refl _) hK
     ·exact hw.elim
    ·exact hw.elim
   ·exact hw.elim
  ·exact hw.elim
theorem AB {base n len:Nat} {es:List (List TV)} (hlen:es.length=len):∀{ps:List (Nat×TV)} {pv:List (Nat×Value)} {op:List (Nat×List TV)} {cs:List Value},
 (ps.all fun p=>okV p.2&&Nat.beq (aF p.2).length n&&Nat.blt p.1 len)=true→EQ c ρ F h base n [] es op cs→Rz c ρ F h ps pv→
 ∃cv,ka (fun i=>some (i*n,n)) cs pv=some cv∧EQ c ρ F h base n [] es (V8 ps op) cv
 |[],[],op,cs,_,hQ,_=>⟨cs,rfl,hQ⟩
 |[],_::_,_,_,_,_,h2=>h2.elim
 |_::_,[],_,_,_,_,h2=>h2.elim
 |q::ps,(k,x)::pv,op,cs,ha,hQ,h2=>by
  obtain⟨e0,hvx,h2⟩:=h2;obtain rfl:q.1=k:=e0;simp only[List.all_cons,Bool.and_eq_true,beq_iff,aS]at ha;obtain⟨⟨⟨eN,hqn⟩,hql⟩,ha⟩:=ha;have rZ:=jl hvx eN;obtain⟨cW,jy⟩:=sL hQ.each hQ.jA;have OD:q.1<(cD es op).length:=by omega
  obtain⟨row,gL⟩:∃e,(cD es op)[q.1]? =some e:=⟨_,List.getElem?_eq_getElem OD⟩;have RW:=jy row (List.mem_of_getElem? gL);have hC:=hQ.cell;rw[←xX gL]at hC;obtain⟨S1,S2,S3,v1,v2,v3,e0,e1,a1,a2,a3⟩:=ia jy OD hC;have e2:v1.length=q.1*n:=by
   have h1:=a1.len;have:=(fh jy gL).2;rw[Nat.add_mul]at this;rw[←h1,List.length_take];omega
  have e3:v2.length=n:=by rw[←a2.len];exact RW
  have e4:c8 v2 0 x.cells.toList=some x.cells.toList:=by
   obtain⟨r,hr⟩:=lL (n:=0) (l:=v2) (xs:=x.cells.toList) (by rw[←rZ.1];omega);rw[hr,kx hr];have:v2.length≤x.cells.toList.length:=by rw[←rZ.1];omega
   rw[List.take_zero,List.drop_zero,List.nil_append,List.drop_eq_nil_of_le this,List.append_nil]
  have e5:=Ey (v1:=v1) (v3:=v3) e4;rw[Nat.add_zero,e2,←e1]at e5;simp only[List.append_eq_nil_iff,List.nil_eq]at e0;obtain⟨rfl,rfl,rfl⟩:=e0;have hJ:=kG jy OD a1 (cI.kU (base:=base) rZ) a3;have hQ1:EQ c ρ F h base n [] es ((q.1,aF q.2)::op) (v1++(x.cells.toList++v3)):=by
   refine⟨?_,hQ.each,hQ.cl,fun p hp=>?_,hJ⟩
   ·have:=(dv e5).2.1;rw[this];exact hQ.len
   ·rcases List.mem_cons.1 hp with rfl |hp
    ·exact⟨om,hqn⟩
    ·exact hQ.jA p hp
  obtain⟨cv,g1,g2⟩:=AB hlen ha hQ1 h2;refine⟨cv,?_,g2⟩;have:x.cells.size=n:=by have:=rZ.1;simp only[Array.length_toList]at this;omega
  simp[ka,this,e5,bF,g1]
theorem OE (L:cm T E) (NX:G9 E X) (H:Mem X ρ F o c h) (S:dA c ρ F h f af) (hw:Uv T (VC E) p.op f o c K):eZ E X ρ F o c af h p K:=by
 obtain⟨dst,op,ty,pos,after,guard⟩:=p;have N:kW T F h:=(NX.now H).sub L;simp only at hw;unfold Uv at hw;split at hw
 ·exact hw.elim
 ·rename_i lM;cases op with
  |move x=>
   obtain⟨v,h1,h2⟩:=ja (E:=E) L N S lM (x:=x) (by simp[Op.operands]);obtain⟨hK,_⟩:=eo hw;exact eZ.pure H (x:=v) h1 h2 hK
  |assign x=>
   obtain⟨v,h1,h2⟩:=ja (E:=E) L N S lM (x:=x) (by simp[Op.operands]);obtain⟨hK,_⟩:=eo hw;exact eZ.pure H (x:=v) h1 h2 hK
  |pick q a b=>
   obtain⟨qv,h1,h2⟩:=ja (E:=E) L N S lM (x:=q) (by simp[Op.operands]);obtain⟨av,h3,h4⟩:=ja (E:=E) L N S lM (x:=a) (by simp[Op.operands]);obtain⟨bv,h5,h6⟩:=ja (E:=E) L N S lM (x:=b) (by simp[Op.operands]);simp only at hw;split at hw
   ·rename_i qb he;rw[he]at h2;have:=h2.dj.1;subst this;split at hw
    ·obtain⟨hK,_⟩:=eo hw;exact eZ.pure H (x:=av) (by simp[aM,h1,h3,Dl]) h4 hK
    ·obtain⟨hK,_⟩:=eo hw;exact eZ.pure H (x:=bv) (by simp[aM,h1,h5,Dl]) h6 hK
   ·exact hw.elim
  |alloc t=>
   simp only at hw;split at hw
   ·rename_i z hz;split at hw
    ·rename_i zs jy;obtain⟨jY,nS⟩:=L.zero _ _ hz;exact uB H (fV nS jy) rfl rfl (by simp[bf,jY]) hw
    ·exact hw.elim
   ·exact hw.elim
  |box t x=>
   obtain⟨v,h1,h2⟩:=ja (E:=E) L N S lM (x:=x) (by simp[Op.operands]);simp only at hw;obtain⟨hK,bc⟩:=eo hw;have cW:bf E af ⟨dst,.box t x,ty,pos,after,guard⟩=some (.cells v.cells.toList,.ptr):=by simp[bf,h1]
   split at hK
   ·exact hK.elim
   ·exact hK.elim
   ·exact hK.elim
   ·exact hK.elim
   ·rename_i cs he;have rZ:=jl h2 (by rw[he];rfl);rw[he]at rZ;exact uB H rZ rfl rfl cW hK
   ·rename_i n1 n2 n4 n5 n3;have NQ:okV (l9 T f x)=true:=by
     cases he:l9 T f x with
     |j=>exact absurd he n1
     |dF cs=>exact absurd he (n2 cs)
     |sv a b=>exact absurd he (n4 a b)
     |pv a b=>exact absurd he (n5 a b)
     |_=>rfl
    have rZ:=jl h2 NQ;have hce:aF (l9 T f x)=[l9 T f x]:=by
     cases he:l9 T f x with
     |agg cs=>exact absurd he (n3 cs)
     |_=>rfl
    rw[hce]at rZ;exact uB H rZ rfl rfl cW hK
  |build t ps=>
   obtain⟨pv,h1,h2⟩:=nU (E:=E) L N S (l:=ps.toList) (by simpa[Op.operands]using lM);exact jk.Gp H (KN L hw h2) (by simp[aM,h1])
  |buildSlice t len ps=>
   obtain⟨pv,h1,h2⟩:=nU (E:=E) L N S (l:=ps.toList) (by simpa[Op.operands]using lM);simp only at hw;unfold vm at hw;split at hw
   ·rename_i elem hd;split at hw
    ·rename_i n z hn hz;obtain⟨jY,nS⟩:=L.zero _ _ hz;split at hw
     ·rename_i zs hc jy;simp only[Bool.and_eq_true,beq_iff,aG,aS]at hc;obtain⟨⟨kp,tT⟩,Ud⟩:=hc;split at hw
      ·rename_i es QZ Vz;have rk:=fV (c:=c) (ρ:=ρ) (F:=F) (h:=h) nS jy;have Gn:zs.length=n:=by have:=rk.1;simp only[Array.length_toList]at this;omega
       obtain⟨F',cv,S',b1,b2,b3⟩:=Ay H Vz (ER.replicate rk Gn QZ len) h2;have vu:es.length=len:=by rw[b3];simp
       refine Jh H S' (cap:=len) b2 Ud om rfl rfl ?_ hw;simp only[bf,L.desc _ _ hd,Option.bind_some,h1,L.size _ _ hn,jY,tT,aG.2 kp,bF];rw[vu];simp[b1]
      ·rename_i QZ Vz;split at hw
       ·rename_i iY;have rk:=fV (c:=c) (ρ:=ρ) (F:=F) (h:=h) nS jy;have Gn:zs.length=n:=by have:=rk.1;simp only[Array.length_toList]at this;omega
        have hE:=ER.replicate rk Gn QZ len
        have hQ0:EQ c ρ F h X.base n [] (List.replicate len zs) [] (aT z.cells.toList len):=
         ⟨hE.len,hE.each,fun e he t ht=>by
          have:=hE.fz e he t ht;unfold mD;split<;>first|rfl |exact this,by simp,cI.kU (ik hE.len hE.each hE.cell)⟩
        obtain⟨cv,g1,hQ⟩:=AB (by simp) iY hQ0 h2;obtain⟨M1,k1⟩:=H.G5 hQ Ud;refine eZ.alloc H (.refl H) (md:=.cells cv) (hd:=.slice n len len) rfl rfl ?_ M1 k1 (.tk om rfl (fun b z' len' hx=>?_) (fun z' hx=>?_)) hw
        ·simp only[bf,L.desc _ _ hd,Option.bind_some,h1,L.size _ _ hn,jY,tT,aG.2 kp,bF];simp[g1]
        ·rw[aI]at hx;cases hx;exact⟨len,by simp,by simp[qT.val]⟩
        ·rw[aI]at hx;cases hx
       ·exact hw.elim
      ·exact hw.elim
     ·exact hw.elim
    ·exact hw.elim
   ·exact hw.elim
  |load t a=>
   obtain⟨av,h1,h2⟩:=ja (E:=E) L N S lM (x:=a) (by simp[Op.operands]);obtain⟨q,h3,h4⟩:=Oi L H hw h2;exact h4.Gp rfl (by simp only[bL,h1,Option.bind_some];exact h3)
  |store t a v=>
   obtain⟨av,h1,h2⟩:=ja (E:=E) L N S lM (x:=a) (by simp[Op.operands]);obtain⟨vv,h3,h4⟩:=ja (E:=E) L N S lM (x:=v) (by simp[Op.operands]);exact KU L H hw h2 h4 rfl rfl rfl (by simp only[da,h1,h3,Option.bind_some];rfl)
  |nilCheck x=>
   obtain⟨v,h1,h2⟩:=ja (E:=E) L N S lM (x:=x) (by simp[Op.operands]);simp only at hw;split at hw
   ·rename_i n q he;rw[he]at h2;cases h2 with
    |ptr hb=>exact eZ.pure H (by simp[aM,h1,mF]) (.ptr hb) hw
   ·rename_i e q he;rw[he]at h2;cases h2 with
    |ep a1 a2 a3 a4 a5=>exact eZ.pure H (by simp[aM,h1,mF]) (.ep a1 a2 a3 a4 a5) hw
   ·rename_i g a b he;rw[he]at h2;cases h2 with
    |cH a1 a2 a3 a4=>exact eZ.pure H (by simp[aM,h1,mF]) (.cH a1 a2 a3 a4) hw
   ·exact hw.elim
  |binOp bop t x y t2=>
   obtain⟨av,h1,h2⟩:=ja (E:=E) L N S lM (x:=x) (by simp[Op.operands]);obtain⟨bv,h3,h4⟩:=ja (E:=E) L N S lM (x:=y) (by simp[Op.operands]);exact jk.Gp H (RA L H hw h2 h4) (by simp[aM,h1,h3])
  |unOp uop t x=>
   obtain⟨v,h1,h2⟩:=ja (E:=E) L N S lM (x:=x) (by simp[Op.operands]);simp only at hw;split at hw
   ·rename_i w he;split at hw
    ·rename_i hs;rw[he]at h2;have:=h2.dj.1;subst this;exact jk.Gp H (sO hw fun x hx=>hx) (by simp[aM,h1,hs,bF])
    ·exact hw.elim
   ·exact hw.elim
  |convert s d x=>
   obtain⟨v,h1,h2⟩:=ja (E:=E) L N S lM (x:=x) (by simp[Op.operands]);exact EG L H hw h2 (by simp[aM,h1]) rfl rfl (by simp[da,h1])
  |makeInterface t x=>
   obtain⟨v,h1,h2⟩:=ja (E:=E) L N S lM (x:=x) (by simp[Op.operands]);simp only at hw;split at hw
   ·exact hw.elim
   ·exact hw.elim
   ·rename_i d hd n1;split at hw
    ·exact hw.elim
    ·refine eZ.pure H (x:=.iface t v) ?_ (.nq h2) hw;simp only[aM,L.desc _ _ n1,Option.bind_some,h1]
  |makeFunc fn first captured=>
   simp only at hw;split at hw
   ·rename_i g;have he:(first.toList.all (rJ T)=true)∧(captured.toList.all (rJ T)=true):=by
     simpa[Op.operands]using lM
    obtain⟨a,h1,h2⟩:=pq (E:=E) L N S he.1;obtain⟨b,h3,h4⟩:=pq (E:=E) L N S he.2;exact eZ.pure H (x:=.func (.func g) a.toArray b.toArray) (by simp[aM,h1,h3]) (.cH (by simpa using h2.1) (fun i t v q1 q2=>h2.2 i t v q1 (by simpa using q2)) (by simpa using h4.1) (fun i t v q1 q2=>h4.2 i t v q1 (by simpa using q2))) hw
   ·exact hw.elim
  |makeMap t r=>
   cases r with
   |some r=>exact hw.elim
   |none=>
    simp only at hw;split at hw
    ·split at hw
     ·split at hw
      ·exact RH H _ rfl rfl rfl hw
      ·exact hw.elim
     ·exact hw.elim
    ·exact hw.elim
  |makeSlice t l k=>
   obtain⟨lv,h1,h2⟩:=ja (E:=E) L N S lM (x:=l) (by simp[Op.operands]);obtain⟨kv,h3,h4⟩:=ja (E:=E) L N S lM (x:=k) (by simp[Op.operands]);simp only at hw;unfold xA at hw;split at hw
   ·rename_i elem li ki hd Yy hki;split at hw
    ·rename_i n bytes z hn Gf hz;obtain⟨jY,nS⟩:=L.zero _ _ hz;split at hw
     ·rename_i zs hc jy;simp only[Bool.and_eq_true,beq_iff,aS]at hc;obtain⟨hc,Hy⟩:=hc;split at hw
      ·rename_i QZ;obtain⟨⟨b1,b2,b30⟩,hK⟩:=hw;have b3:(ki+1)*((bytes:Int)+1)≤1099511627776:=by
        have h1:(ki.toNat+1)*(bytes+1)≤1099511627776:=size_le om Hy;have h2:ki=(ki.toNat:Int):=by omega
        rw[h2];have h3:=Int.ofNat_le.2 h1;rw[Int.natCast_mul]at h3;exact h3
       have rk:=fV (c:=c) (ρ:=ρ) (F:=F) (h:=h) nS jy;have Gn:zs.length=n:=by have:=rk.1;simp only[Array.length_toList]at this;omega
       have hE:=ER.replicate rk Gn QZ li.toNat
       refine Jh H (.refl H) (cap:=bif Nat.beq li.toNat ki.toNat then li.toNat else li.toNat+1) hE hc.2 (by simp only[List.length_replicate,bY];split<;>omega) rfl rfl ?_ hK;simp only[bf,L.desc _ _ hd,Option.bind_some,h1,h3,mT Yy h2,mT hki h4,L.size _ _ hn,L.bytes _ _ Gf,jY,hc.1,bF];simp[b1,b2,b3]
      ·exact hw.elim
     ·exact hw.elim
    ·exact hw.elim
   ·exact hw.elim
  |slice t x lo hi mx=>
   obtain⟨xv,h1,h2⟩:=ja (E:=E) L N S lM (x:=x) (by simp[Op.operands]);obtain⟨xP,h3,h4⟩:=evO (E:=E) L N S lM (x:=lo) (fun y e=>by subst e;simp[Op.operands]);obtain⟨hiv,h5,h6⟩:=evO (E:=E) L N S lM (x:=hi) (fun y e=>by subst e;simp[Op.operands]);obtain⟨Q2,h7,h8⟩:=evO (E:=E) L N S lM (x:=mx) (fun y e=>by subst e;simp[Op.operands]);exact(KL L H hw h2 h4 h6 h8).Gp H (by simp[aM,h1,h3,h5,h7])
  |fieldAddr s x fd=>
   obtain⟨v,h1,h2⟩:=ja (E:=E) L N S lM (x:=x) (by simp[Op.operands]);exact jk.Gp H (zM L H hw h2) (by simp only[aM,h1,Option.bind_some];rfl)
  |field t x fd=>
   obtain⟨v,h1,h2⟩:=ja (E:=E) L N S lM (x:=x) (by simp[Op.operands]);exact jk.Gp H (KJ L hw h2) (by simp only[aM,h1,Option.bind_some];rfl)
  |indexAddr t x i=>
   obtain⟨v,h1,h2⟩:=ja (E:=E) L N S lM (x:=x) (by simp[Op.operands]);obtain⟨iv,h3,h4⟩:=ja (E:=E) L N S lM (x:=i) (by simp[Op.operands]);exact jk.Gp H (zN L H hw h2 h4) (by simp[aM,h1,h3])
  |index t x i=>
   obtain⟨v,h1,h2⟩:=ja (E:=E) L N S lM (x:=x) (by simp[Op.operands]);obtain⟨iv,h3,h4⟩:=ja (E:=E) L N S lM (x:=i) (by simp[Op.operands]);exact jk.Gp H (KK L hw h2 h4) (by simp[aM,h1,h3])
  |lookup t x i ok=>
   obtain⟨v,h1,h2⟩:=ja (E:=E) L N S lM (x:=x) (by simp[Op.operands]);obtain⟨iv,h3,h4⟩:=ja (E:=E) L N S lM (x:=i) (by simp[Op.operands]);rcases Hj L H hw h2 h4 with⟨rfl,R⟩|⟨r,rfl,q,hq,R⟩
   ·exact jk.Gp H R (by simp only[aM,h1,h3,Option.bind_some];cases E.desc t with|none=>rfl |some d=>cases d<;>rfl)
   ·refine R.Gp ?_ (by simp only[bL,h1,h3,Option.bind_some];exact hq);simp only[aM,h1,h3,Option.bind_some];cases E.desc t with
    |none=>rfl
    |some d=>cases d<;>rfl
  |mapUpdate t m k v=>
   obtain⟨mv,h1,h2⟩:=ja (E:=E) L N S lM (x:=m) (by simp[Op.operands]);obtain⟨kv,h3,h4⟩:=ja (E:=E) L N S lM (x:=k) (by simp[Op.operands]);obtain⟨vv,h5,h6⟩:=ja (E:=E) L N S lM (x:=v) (by simp[Op.operands]);exact zQ L H hw h2 h4 h6 rfl rfl rfl (by simp only[da,h1,h3,h5,Option.bind_some];rfl)
  |extract t i=>
   obtain⟨v,h1,h2⟩:=ja (E:=E) L N S lM (x:=t) (by simp[Op.operands]);simp only at hw;split at hw
   ·rename_i vs he;rw[he]at h2;obtain⟨a,rfl,h3⟩:=h2.sJ;split at hw
    ·rename_i w hi;obtain⟨hK,_⟩:=eo hw;have bH:=(List.getElem?_eq_some_iff.1 hi).1;have adE:i<a.toList.length:=by rw[←h3.1];exact bH
     obtain⟨x,hx⟩:∃x,a.toList[i]? =some x:=⟨_,List.getElem?_eq_getElem adE⟩;exact eZ.pure H (x:=x) (by simp only[aM,h1,Option.bind_some];exact hx) (h3.2 i w x hi hx) hK
    ·exact hw.elim
   ·exact hw.elim
  |call q=>
   obtain⟨callee,sU,argTypes⟩:=q;simp only at hw;split at hw
   ·rename_i b;have adF:sU.toList.all (rJ T)=true:=by simpa[Op.operands,Call.operands]using lM
    obtain⟨vs,h1,h2⟩:=pq (E:=E) L N S adF;exact EE L H hw h2 h1
   ·rename_i g;have he:rJ T g=true∧sU.toList.all (rJ T)=true:=by simpa[Op.operands,Call.operands]using lM
    obtain⟨gv,h1,h2⟩:=p8 (E:=E) L N S he.1;obtain⟨vs,h3,h4⟩:=pq (E:=E) L N S he.2;split at hw
    ·rename_i g' a b hg;rw[hg]at h2;cases h2 with
     |cH hs ha ht hk=>
      rename_i a' k';have wZ:dI c ρ F h a a'.toList:=⟨by simpa using hs,fun i t v q1 q2=>ha i t v q1 (by simpa using q2)⟩;have pd:dI c ρ F h b k'.toList:=⟨by simpa using ht,fun i t v q1 q2=>hk i t v q1 (by simpa using q2)⟩;refine OA NX H (L.still g') hw ((wZ.append h4).append pd) rfl rfl rfl ?_;simp only[da,h3,h1,Option.bind_some]
    ·exact hw.elim
   ·exact hw.elim
  |_=>exact hw.elim
end
def CH (h:ab) (b:Nat):Prop:=(∃cs,h.rd b=some cs)∨∃ob,h.get b=some ob∧∀cs f t th,ob≠ .cells cs f t th
theorem Mem.live {X:Cx} {ρ:Gh} {F:Nat→Prop} {o:Ob} {c:Nat} {h:ab} (H:Mem X ρ F o c h) {m:Nat} {y:TO} {b:Nat} (hl:look o m=some y) (hb:At ρ m b):CH h b:=by
 obtain⟨Sm,hO⟩:=H.b7 hl;cases hO with
 |cells h1 hg ht hc=>
  rcases hb with hb|⟨z,l,hb⟩<;>rw[h1]at hb<;>cases hb
  exact .inl (⟨_,dD (bM hg hg) ht (by unfold ab.cellsOf;rw[hg])⟩)
 |map h1 hg=>rcases hb with hb|⟨z,l,hb⟩<;>rw[h1]at hb<;>cases hb;exact .inr ⟨_,hg,by simp⟩
 |eL h1 hg=>rcases hb with hb|⟨z,l,hb⟩<;>rw[h1]at hb<;>cases hb;exact .inr ⟨_,hg,by simp⟩
 |gZ h1 hg=>rcases hb with hb|⟨z,l,hb⟩<;>rw[h1]at hb<;>cases hb;exact .inr ⟨_,hg,by simp⟩
 |nil h1=>rcases hb with hb|⟨z',l,hb⟩<;>rw[h1]at hb<;>cases hb
 |gF h1=>rcases hb with hb|⟨z',l,hb⟩<;>rw[h1]at hb<;>cases hb
 |arr h1 hg hf ht=>rcases hb with hb|⟨z',l,hb⟩<;>rw[h1]at hb<;>cases hb;exact .inl (⟨_,dD hf ht (by unfold ab.cellsOf;rw[hg])⟩)
 |bx h1 hg hf ht=>rcases hb with hb|⟨z',l,hb⟩<;>rw[h1]at hb<;>cases hb;exact .inl (⟨_,dD hf ht (by unfold ab.cellsOf;rw[hg])⟩)
theorem yc:∀{o:Ob} {m:Nat},m∈YC o→∃y,look o m=some y
 |[],m,h=>by simp[YC]at h
 |p::o,m,h=>by
  rw[aN];by_cases e:p.1=m
  ·exact⟨p.2,by simp[e]⟩
  ·rw[if_neg e];simp only[YC,List.mem_cons]at h;rcases h with h|h
   ·exact absurd h.symm e
   ·exact yc h
def RX:TV→Bool
 | .mp _=>true
 | .ptr _ _=>true
 |_=>false
def nX (ρ:Gh) (o:Ob) (h:ab):Prop:=∀n cs p v,look o n=some (.cells cs)→cs[p]? =some v→RX v=true→∃b x,ρ n=some (.dw b)∧ae h b p 1=some [x]∧kX ρ v x
theorem Mem.CI {X:Cx} {ρ:Gh} {F:Nat→Prop} {o:Ob} {c:Nat} {h:ab} (H:Mem X ρ F o c h):nX ρ o h:=by
 intro n cs p v hl hp hv;obtain⟨Sm,hO⟩:=H.b7 hl;cases hO with
 |cells hb hg ht hc=>
  rename_i S b aQ cv;obtain⟨S1,S2,S3,_,a1,a2,a3⟩:=hc.part p 1;have bH:=(List.getElem?_eq_some_iff.1 hp).1;have e1:(cs.drop p).take 1=[v]:=by
   rw[List.drop_eq_getElem_cons bH,List.take_succ_cons,List.take_zero];rw[(List.getElem?_eq_some_iff.1 hp).2]
  rw[e1]at a2;have hV:=a2.YE (fun t v hv hf=>hv.dN hf) (by cases v<;>first|rfl |simp[RX]at hv);obtain⟨x,m1,e2,hx,Gw⟩:=hV.1.aP;obtain rfl:=Gw.bK;have hlen:=hc.len;have fP:=dD (bM hg hg) ht (aB hg);refine⟨b,x,hb,?_,?_⟩
  ·unfold ae;rw[fP];simp only[Option.bind_some,aW];exact⟨by rw[List.length_drop];omega,e2.symm⟩
  ·cases v with
   |mp k=>cases hx with|mp h1=>exact .inl ⟨_,_,rfl,h1,rfl⟩
   |ptr k q=>cases hx with|ptr h1=>exact .inr ⟨_,_,_,rfl,h1,rfl⟩
   |_=>simp[RX]at hv
inductive uD (oF:Ob):Gh→(Nat→Prop)→Ob→ab→List VN→List dZ→Prop
 |nil {ρ:Gh} {F:Nat→Prop} {h:ab} (bT:nX ρ oF h):uD oF ρ F oF h [] []
 |cons {ρ ρ':Gh} {F F':Nat→Prop} {o o':Ob} {h h':ab} {l:VL} {e:dZ} {ls:List VN} {es:List dZ} (hl:fM ρ F o h ρ' o' h' l e) (hw:Wf h) (hs:h.size≤h'.size) (hF:∀b,F b→F' b) (cZ:∀b cs,F b→h.rd b=some cs→h'.rd b=some cs)
  (RY:∀m y b,look o m=some y→At ρ m b→CH h b) (tV:∀k b,ρ k=some (.dw b)→ρ' k=some (.dw b)) (bT:nX ρ o h) (hr:uD oF ρ' F' o' h' ls es):uD oF ρ F o h ((l,o)::ls) (e::es)
theorem uD.next {oF:Ob} {ρ:Gh} {F:Nat→Prop} {o:Ob} {h:ab} {ls:List VN} {es:List dZ} (H:uD oF ρ F o h ls es):I5 oF ls=o∧nX ρ o h:=by
 cases H with
 |nil bT=>exact⟨rfl,bT⟩
 |cons _ _ _ _ _ _ _ bT _=>exact⟨rfl,bT⟩
theorem wD {h:ab} (W:Wf h) (q:RQ):qW h q=true:=by
 unfold qW;rw[bY];split
 ·rename_i hb;split
  ·rename_i f t th hg;rw[aS]at hb ⊢;have:=W.le _ _ _ _ _ hg;omega
  ·rfl
 ·rfl
theorem yd {h:ab} (W:Wf h) {q:RQ} (hn:lJ q h):q.dw<h.size:=by
 cases q with
 |cells a b o n=>
  obtain⟨l,h1,_⟩:=hn;unfold ae at h1;simp only[Option.bind_eq_some_iff]at h1;obtain⟨cs,h2,_⟩:=h1;obtain⟨f,t,th,hg⟩:=xE h2;exact W.lt hg
 |look r kd k z ok=>
  obtain⟨m,h1,_⟩:=hn;unfold eR at h1;split at h1
  ·rename_i hg;exact W.lt hg
  ·cases h1
 |len r=>
  obtain⟨m,h1,_⟩:=hn;unfold eR at h1;split at h1
  ·rename_i hg;exact W.lt hg
  ·cases h1
theorem jn {h h':ab} {q:RQ} (hn:lJ q h) (hg:(∃a b o n,q= .cells a b o n)∨h'.get q.dw=h.get q.dw) (hr:∀cs,h.rd q.dw=some cs→h'.rd q.dw=some cs):lJ q h'∧fE h h' q=true:=by
 cases q with
 |cells a b o n=>
  obtain⟨l,h1,h2⟩:=hn;have h3:ae h' b o n=some l:=by
   unfold ae at h1 ⊢;simp only[Option.bind_eq_some_iff]at h1 ⊢;obtain⟨cs,h4,h5⟩:=h1;exact⟨cs,hr cs h4,h5⟩
  refine⟨⟨l,h3,h2⟩,?_⟩;unfold fE;rw[Bool.or_eq_true];left;unfold lC;rw[bY];split
  ·simp only[h1,h3,h2]
  ·rfl
 |look r kd k z ok=>
  obtain⟨m,h1,h2⟩:=hn;have kO:h'.get r=h.get r:=by
   rcases hg with⟨a,b,o,n,e⟩|hg
   ·cases e
   ·exact hg
  have h3:eR h' r=some m:=by unfold eR at h1 ⊢;rw[kO];exact h1
  refine⟨⟨m,h3,h2⟩,?_⟩;unfold fE;rw[Bool.or_eq_true];left;unfold lC;rw[bY];split
  ·simp only[h1,h3,h2]
  ·rfl
 |len r=>
  obtain⟨m,h1,h2⟩:=hn;have kO:h'.get r=h.get r:=by
   rcases hg with⟨a,b,o,n,e⟩|hg
   ·cases e
   ·exact hg
  have h3:eR h' r=some m:=by unfold eR at h1 ⊢;rw[kO];exact h1
  refine⟨⟨m,h3,h2⟩,?_⟩;unfold fE;rw[Bool.or_eq_true];left;unfold lC;rw[bY];split
  ·simp only[h1,h3,h2]
  ·rfl
theorem il (h:ab) (q:RQ):fE h h q=true:=by
 unfold fE;rw[Bool.or_eq_true];exact .inr (decide_eq_true (inst:=Classical.propDecidable _) rfl)
section
variable {bs:List Nat} {i:Nat} {oF:Ob}
theorem sV:∀{ls:List VN} {j:Nat},fG bs oF j ls=true→∀l∈ls,l.1≠ .bad
 |[],_,_,l,hl=>by simp at hl
 |x::ls,j,hd,l,hl=>by
  have key:fG bs oF (j+1) ls=true∧x.1≠ .bad:=by
   obtain⟨x,nm⟩:=x;cases x<;>simp only[fG,Bool.and_eq_true]at hd
   ·exact⟨hd,by simp⟩
   ·exact⟨hd,by simp⟩
   ·exact⟨hd,by simp⟩
   ·exact⟨hd.2,by simp⟩
   ·exact⟨hd.2,by simp⟩
   ·exact⟨hd.2,by simp⟩
   ·exact⟨hd.2,by simp⟩
   ·exact⟨hd.2,by simp⟩
   ·cases hd
  rcases List.mem_cons.1 hl with rfl |h1
  ·exact key.2
  ·exact sV key.1 l h1
theorem UK {q:RQ} (hc:∃a b o n,q= .cells a b o n) {wV:ab}:∀{ls:List VN} {es:List dZ} {ρ:Gh} {F:Nat→Prop} {o:Ob} {h:ab} {j:Nat},uD oF ρ F o h ls es→(∀l∈ls,l.1≠ .bad)→F q.dw→lJ q h→cd bs i (.rd q wV) j es=true
 |_,_,ρ,F,_,h,j,.nil _,_,_,_=>rfl
 |_,_,ρ,F,o,h,j,.cons (h':=h') (l:=l) (e:=e) hl hw hs hF cZ RY tV bT hr,oO,hFq,hn=>by
  obtain⟨k1,k2⟩:=jn (h':=h') hn (.inl hc) (fun cs=>cZ _ cs hFq);have ih:=UK hc (wV:=wV) (j:=j+1) hr (fun l hl=>oO l (List.mem_cons_of_mem _ hl)) (hF _ hFq) k1;simp only[cd,Bool.and_eq_true];refine⟨?_,ih⟩;cases hl with
  |pure=>rfl
  |alloc=>exact wD hw q
  |IY=>rfl
  |lu=>rfl
  |zI=>rfl
  |du=>simp[aX,k2]
  |oD hr hh=>subst hh;simp[aX,il]
  |oE=>simp[aX,k2]
  |bad=>exact absurd rfl (oO _ List.mem_cons_self)
theorem pz {q:RQ} {n:Nat} {wV:ab}:∀{ls:List VN} {es:List dZ} {ρ:Gh} {F:Nat→Prop} {o:Ob} {h:ab} {j:Nat} {dW:Bool},uD oF ρ F o h ls es→(∀l∈ls,l.1≠ .bad)→pj bs i n j ls dW=true→
 (dW=false→(∃y,look o n=some y)∧At ρ n q.dw∧lJ q h)→cd bs i (.rd q wV) j es=true
 |_,_,ρ,F,_,h,j,dW,.nil _,_,_,_=>rfl
 |_,_,ρ,F,o,h,j,dW,.cons (ρ':=ρ') (o':=o') (h':=h') (l:=l) (e:=e) (ls:=ls) hl hw hs hF cZ RY tV bT hr,oO,hp,ht=>by
  have cL:∀l∈ls,l.1≠ .bad:=fun l hl=>oO l (List.mem_cons_of_mem _ hl)
  -- an operation that leaves the object alone
  have quiet:∀ns,Raw ρ o h ρ' o' h' ns→n∉ns→dW=false→((∃y,look o' n=some y)∧At ρ' n q.dw∧lJ q h')∧fE h h' q=true:=by
   intro ns bD BO hd;obtain⟨⟨y,hy⟩,hat,hn⟩:=ht hd;obtain⟨⟨y',r1⟩,r2,r3⟩:=bD n y hy BO;obtain⟨r4,r5⟩:=r3 _ hat
   obtain⟨k1,k2⟩:=jn hn (.inr r4) r5;exact⟨⟨⟨y',r1⟩,by unfold At at hat ⊢;rw[r2];exact hat,k1⟩,k2⟩
  simp only[cd,Bool.and_eq_true];cases hl with
  |pure bD=>exact⟨rfl,pz hr cL hp fun hd=>(quiet _ bD (by simp) hd).1⟩
  |alloc bD=>exact⟨wD hw q,pz hr cL hp fun hd=>(quiet _ bD (by simp) hd).1⟩
  |IY bD=>exact⟨rfl,pz hr cL hp fun hd=>(quiet _ bD (by simp) hd).1⟩
  |lu bD=>exact⟨rfl,pz hr cL hp fun hd=>(quiet _ bD (by simp) hd).1⟩
  |zI bD=>exact⟨rfl,pz hr cL hp fun hd=>(quiet _ bD (by simp) hd).1⟩
  |du bD=>
   rename_i ns;simp only[pj]at hp;split at hp
   ·rename_i hc;simp only[Bool.and_eq_true]at hp;exact⟨by simp[aX,hp.1],pz hr cL hp.2 fun hd=>by cases hd⟩
   ·rename_i hc;have hd:dW=false:=by cases dW<;>simp_all
    have BO:n∉ns:=by subst hd;simpa using hc
    obtain⟨q1,q2⟩:=quiet _ bD BO hd;exact⟨by simp[aX,q2],pz hr cL hp fun _=>q1⟩
  |oD bD hh=>
   rename_i ns;subst hh;simp only[pj]at hp;refine⟨by simp[aX,il],pz hr cL hp fun hd=>?_⟩;simp only[Bool.or_eq_false_iff]at hd;exact(quiet _ bD (by simpa using hd.2) hd.1).1
  |oE bD=>
   simp only[pj]at hp;split at hp
   ·simp only[Bool.and_eq_true]at hp;exact⟨by simp[aX,hp.1],pz hr cL hp.2 fun hd=>by cases hd⟩
   ·obtain⟨q1,q2⟩:=quiet _ bD (by simp) rfl;exact⟨by simp[aX,q2],pz hr cL hp fun _=>q1⟩
  |bad=>exact absurd rfl (oO _ List.mem_cons_self)
theorem kX.bl {ρ ρ':Gh} {v:TV} {x:Value} (H:kX ρ v x) (hk:∀k b,ρ k=some (.dw b)→ρ' k=some (.dw b)):kX ρ' v x:=by
 rcases H with⟨k,b,h1,h2,h3⟩|⟨k,q,b,h1,h2,h3⟩
 ·exact .inl ⟨k,b,h1,hk _ _ h2,h3⟩
 ·exact .inr ⟨k,q,b,h1,hk _ _ h2,h3⟩
theorem kX.uniq {ρ:Gh} {v:TV} {x y:Value} (H:kX ρ v x) (K:kX ρ v y):x=y:=by
 rcases H with⟨k,b,rfl,h2,rfl⟩|⟨k,q,b,rfl,h2,rfl⟩<;>rcases K with⟨k',b',e,k2,rfl⟩|⟨k',q',b',e,k2,rfl⟩<;>cases e<;>rw[h2]at k2<;>cases k2<;>rfl
theorem kX.Dm {ρ:Gh} {v:TV} {x:Value} (H:kX ρ v x):gu [x] [x]=true∧RX v=true:=by
 rcases H with⟨k,b,rfl,h2,rfl⟩|⟨k,q,b,rfl,h2,rfl⟩<;>exact⟨by simp[gu,jG],rfl⟩
theorem AD {v w:TV} (h:Cj v w=true):w=v:=by
 cases v<;>cases w<;>simp[Cj]at h
 ·obtain⟨rfl,rfl⟩:=h;rfl
 ·subst h;rfl
theorem jo {n p b:Nat} {v:TV} {x:Value} {wV:ab}:∀{ls:List VN} {es:List dZ} {ρ:Gh} {F:Nat→Prop} {o:Ob} {h:ab} {j:Nat} {dW:Bool},uD oF ρ F o h ls es→(∀l∈ls,l.1≠ .bad)→mP bs i n p v oF j ls dW=true→
 (dW=false→(∃y,look o n=some y)∧ρ n=some (.dw b)∧ae h b p 1=some [x]∧kX ρ v x)→cd bs i (.rd (.cells false b p 1) wV) j es=true
 |_,_,ρ,F,_,h,j,dW,.nil _,_,_,_=>rfl
 |_,_,ρ,F,o,h,j,dW,.cons (ρ':=ρ') (o':=o') (h':=h') (l:=l) (e:=e) (ls:=ls) hl hw hs hF cZ RY tV bT hr,oO,hp,ht=>by
  have cL:∀l∈ls,l.1≠ .bad:=fun l hl=>oO l (List.mem_cons_of_mem _ hl);have same:∀{h1:ab},dW=false→ae h1 b p 1=some [x]→fE h h1 (.cells false b p 1)=true:=by
   intro h1 hd h2;obtain⟨_,_,h3,h4⟩:=ht hd;unfold fE;rw[Bool.or_eq_true];left;unfold lC;rw[bY];split
   ·simp only[h3,h2,h4.Dm.1]
   ·rfl
  have quiet:∀ns,Raw ρ o h ρ' o' h' ns→n∉ns→dW=false→(∃y,look o' n=some y)∧ρ' n=some (.dw b)∧ae h' b p 1=some [x]∧kX ρ' v x:=by
   intro ns bD BO hd;obtain⟨⟨y,hy⟩,hb,fP,hx⟩:=ht hd;obtain⟨⟨y',r1⟩,r2,r3⟩:=bD n y hy BO;obtain⟨r4,r5⟩:=r3 _ (.inl hb);refine⟨⟨y',r1⟩,tV _ _ hb,?_,hx.bl tV⟩;unfold ae at fP ⊢;simp only[Option.bind_eq_some_iff]at fP ⊢;obtain⟨cs,h4,h5⟩:=fP;exact⟨cs,r5 cs h4,h5⟩
  simp only[cd,Bool.and_eq_true];cases hl with
  |pure bD=>exact⟨rfl,jo hr cL hp fun hd=>quiet _ bD (by simp) hd⟩
  |alloc bD=>exact⟨wD hw _,jo hr cL hp fun hd=>quiet _ bD (by simp) hd⟩
  |IY bD=>exact⟨rfl,jo hr cL hp fun hd=>quiet _ bD (by simp) hd⟩
  |lu bD=>exact⟨rfl,jo hr cL hp fun hd=>quiet _ bD (by simp) hd⟩
  |zI bD=>exact⟨rfl,jo hr cL hp fun hd=>quiet _ bD (by simp) hd⟩
  |du bD=>
   rename_i ns;simp only[mP]at hp;split at hp
   ·simp only[Bool.and_eq_true]at hp;exact⟨by simp[aX,hp.1],jo (x:=x) hr cL hp.2 fun hd=>by cases hd⟩
   ·split at hp
    ·rename_i hc;have BO:n∉ns:=by simpa using hc
     have q1:=quiet _ bD BO rfl;exact⟨by simp[aX,same rfl q1.2.2.1],jo hr cL hp fun _=>q1⟩
    ·split at hp
     ·rename_i Wv;obtain⟨e1,e2⟩:=hr.next;rw[e1]at Wv;unfold pn at Wv;split at Wv
      ·rename_i cs u5;split at Wv
       ·rename_i w hw';obtain rfl:=AD Wv;obtain⟨_,hb,_,hx⟩:=ht rfl;obtain⟨b',x',k1,k2,k3⟩:=e2 n cs p _ u5 hw' hx.Dm.2;rw[tV _ _ hb]at k1;cases k1;obtain rfl:=(hx.bl tV).uniq k3;exact⟨by simp[aX,same rfl k2],jo hr cL hp fun _=>⟨⟨_,u5⟩,tV _ _ hb,k2,k3⟩⟩
       ·cases Wv
      ·cases Wv
     ·simp only[Bool.and_eq_true]at hp;exact⟨by simp[aX,hp.1],jo (x:=x) hr cL hp.2 fun hd=>by cases hd⟩
  |oD bD hh=>
   rename_i ns;subst hh;simp only[mP]at hp;refine⟨by simp[aX,il],jo (x:=x) hr cL hp fun hd=>?_⟩;simp only[Bool.or_eq_false_iff]at hd;exact quiet _ bD (by simpa using hd.2) hd.1
  |oE bD=>
   simp only[mP]at hp;split at hp
   ·simp only[Bool.and_eq_true]at hp;exact⟨by simp[aX,hp.1],jo (x:=x) hr cL hp.2 fun hd=>by cases hd⟩
   ·have q1:=quiet _ bD (by simp) rfl;exact⟨by simp[aX,same rfl q1.2.2.1],jo hr cL hp fun _=>q1⟩
  |bad=>exact absurd rfl (oO _ List.mem_cons_self)
def ye (ρ:Gh) (ob oa:Ob) (g g':ab):Prop:=∀m p v,pn ob m p v=true→pn oa m p v=true→∃b x,ρ m=some (.dw b)∧ae g b p 1=some [x]∧ae g' b p 1=some [x]∧kX ρ v x
theorem ye.bl {ρ ρ':Gh} {ob oa:Ob} {g g':ab} (H:ye ρ ob oa g g') (tV:∀k b,ρ k=some (.dw b)→ρ' k=some (.dw b)):ye ρ' ob oa g g':=by
 intro m p v h1 h2;obtain⟨b,x,k1,k2,k3,k4⟩:=H m p v h1 h2;exact⟨b,x,tV _ _ k1,k2,k3,k4.bl tV⟩
theorem yf {ρ:Gh} {o:Ob} {h:ab} {m p:Nat} {v:TV} (H:nX ρ o h) (hc:pn o m p v=true):∃b x,ρ m=some (.dw b)∧ae h b p 1=some [x]∧kX ρ v x:=by
 unfold pn at hc;split at hc
 ·rename_i cs u5;split at hc
  ·rename_i w hw';obtain rfl:=AD hc;exact H m cs p _ u5 hw' (by cases w<;>first|rfl |simp[Cj]at hc)
  ·cases hc
 ·cases hc
theorem OF {ρ ρ':Gh} {ob oa:Ob} {g g':ab} (H:nX ρ ob g) (H':nX ρ' oa g') (tV:∀k b,ρ k=some (.dw b)→ρ' k=some (.dw b)):ye ρ' ob oa g g':=by
 intro m p v h1 h2;obtain⟨b,x,k1,k2,k3⟩:=yf H h1;obtain⟨b',x',l1,l2,l3⟩:=yf H' h2;rw[tV _ _ k1]at l1;cases l1;obtain rfl:=(k3.bl tV).uniq l3;exact⟨b,x,tV _ _ k1,k2,l2,l3⟩
theorem jE {g g':ab} {nm:List Nat} {ob oa:Ob}:∀{ls:List VN} {es:List dZ} {ρ:Gh} {F:Nat→Prop} {o:Ob} {h:ab} {xD:List Nat} {j:Nat},uD oF ρ F o h ls es→(∀l∈ls,l.1≠ .bad)→kg bs i nm ob oa xD j ls=true→ye ρ ob oa g g'→
 (∀m∈nm,m∉xD→(∃y,look o m=some y)∧∀b,At ρ m b→CH g b∧g'.get b=g.get b∧(∀cs,g.rd b=some cs→g'.rd b=some cs)∧h.get b=g.get b∧(∀cs,g.rd b=some cs→h.rd b=some cs))→cd bs i (.du g g') j es=true
 |_,_,ρ,F,_,h,xD,j,.nil _,_,_,_,_=>rfl
 |_,_,ρ,F,o,h,xD,j,.cons (ρ':=ρ') (o':=o') (h':=h') (l:=l) (e:=e) (ls:=ls) hl hw hs hF cZ RY tV bT hr,oO,hp,hB,ht=>by
  have UL:=hB.bl tV;have cL:∀l∈ls,l.1≠ .bad:=fun l hl=>oO l (List.mem_cons_of_mem _ hl);have next:∀(ms Ww:List Nat),Raw ρ o h ρ' o' h' ms→(∀m,m∉Ww→m∉xD∧m∉ms)→∀m∈nm,m∉Ww→(∃y,look o' m=some y)∧∀b,At ρ' m b→CH g b∧g'.get b=g.get b∧(∀cs,g.rd b=some cs→g'.rd b=some cs)∧h'.get b=g.get b∧(∀cs,g.rd b=some cs→h'.rd b=some cs):=by
   intro ms Ww bD gN m hm RZ;obtain⟨q1,q2⟩:=gN m RZ;obtain⟨⟨y,hy⟩,hb⟩:=ht m hm q1;obtain⟨⟨y',r1⟩,r2,r3⟩:=bD m y hy q2;refine⟨⟨y',r1⟩,fun b Dw=>?_⟩;have aao:At ρ m b:=by unfold At at Dw ⊢;rw[←r2];exact Dw
   obtain⟨a1,a2,a3,a4,a5⟩:=hb b aao;obtain⟨b1,b2⟩:=r3 b aao;exact⟨a1,a2,a3,b1.trans a4,fun cs o7=>b2 cs (a5 cs o7)⟩
  simp only[cd,Bool.and_eq_true];cases hl with
  |pure bD=>exact⟨rfl,jE hr cL hp UL (next _ _ bD fun m hm=>⟨hm,by simp⟩)⟩
  |alloc bD=>exact⟨rfl,jE hr cL hp UL (next _ _ bD fun m hm=>⟨hm,by simp⟩)⟩
  |IY bD=>simp only[kg,Bool.and_eq_true]at hp;exact⟨by simp[aX,hp.1],jE hr cL hp.2 UL (next _ _ bD fun m hm=>⟨hm,by simp⟩)⟩
  |lu bD hh hy hb hn=>
   rename_i q m y;simp only[kg,Bool.and_eq_true,Bool.or_eq_true]at hp;refine⟨?_,jE hr cL hp.2 UL (next _ _ bD fun m hm=>⟨hm,by simp⟩)⟩;rcases hp.1 with ho|ho
   ·simp[aX,ho]
   ·simp only[Bool.not_eq_true']at ho;have hm:m∈nm:=by simpa using ho.1
    have RZ:m∉xD:=by simpa using ho.2
    obtain⟨a1,a2,a3,a4,a5⟩:=(ht m hm RZ).2 _ hb;have hng:lJ q g:=by
     cases q with
     |cells a b o' n'=>
      obtain⟨l,r1,r2⟩:=hn;refine⟨l,?_,r2⟩;unfold ae at r1 ⊢;rcases a1 with⟨cs,a1⟩|⟨ob,a1,a1n⟩
      ·have:=a5 cs a1;simp only[RQ.dw]at a1 this;rw[this]at r1;rw[a1];exact r1
      ·simp only[RQ.dw]at a1 a4;exfalso;simp only[Option.bind_eq_some_iff]at r1;obtain⟨cs,r3,_⟩:=r1;obtain⟨f,t,th,r4⟩:=xE r3;rw[a4,a1]at r4;exact a1n _ _ _ _ (Option.some.inj r4)
     |look r kd k z ok=>
      obtain⟨mm,r1,r2⟩:=hn;refine⟨mm,?_,r2⟩;simp only[RQ.dw]at a4;unfold eR at r1 ⊢;rw[←a4];exact r1
     |len r=>
      obtain⟨mm,r1,r2⟩:=hn;refine⟨mm,?_,r2⟩;simp only[RQ.dw]at a4;unfold eR at r1 ⊢;rw[←a4];exact r1
    have:=(jn hng (.inr a2) a3).2;simp[aX,this]
  |zI bD hh hy wU hx adJ=>
   rename_i m p0 b0 v0 x0 y;have hb:At ρ m (RQ.dw (.cells false b0 p0 1)):=.inl wU;have hn:lJ (.cells false b0 p0 1) h:=⟨_,adJ,hx.Dm.1⟩;simp only[kg,Bool.and_eq_true,Bool.or_eq_true]at hp;refine⟨?_,jE hr cL hp.2 UL (next _ _ bD fun m hm=>⟨hm,by simp⟩)⟩;rcases hp.1 with (ho|ho)|ho
   ·simp[aX,ho]
   ·simp only[Bool.not_eq_true']at ho;have hm:m∈nm:=by simpa using ho.1
    have RZ:m∉xD:=by simpa using ho.2
    obtain⟨a1,a2,a3,a4,a5⟩:=(ht m hm RZ).2 _ hb;have hng:lJ (.cells false b0 p0 1) g:=by
     obtain⟨l,r1,r2⟩:=hn;refine⟨l,?_,r2⟩;unfold ae at r1 ⊢;rcases a1 with⟨cs,a1⟩|⟨ob,a1,a1n⟩
     ·have:=a5 cs a1;simp only[RQ.dw]at a1 this;rw[this]at r1;rw[a1];exact r1
     ·simp only[RQ.dw]at a1 a4;exfalso;simp only[Option.bind_eq_some_iff]at r1;obtain⟨cs,r3,_⟩:=r1;obtain⟨f,t,th,r4⟩:=xE r3;rw[a4,a1]at r4;exact a1n _ _ _ _ (Option.some.inj r4)
    have:=(jn hng (.inr a2) a3).2;simp[aX,this]
   ·obtain⟨b1,x1,k1,k2,k3,k4⟩:=hB _ _ _ ho.1 ho.2;rw[wU]at k1;cases k1;obtain rfl:=hx.uniq k4;have:fE g g' (.cells false b0 p0 1)=true:=by
     unfold fE;rw[Bool.or_eq_true];left;unfold lC;rw[bY];split
     ·simp only[k2,k3,hx.Dm.1]
     ·rfl
    simp[aX,this]
  |du bD=>
   simp only[kg,Bool.and_eq_true]at hp;exact⟨by simp[aX,hp.1],jE hr cL hp.2 UL (next _ _ bD fun m hm=>by simp only[List.mem_append,not_or]at hm;exact hm)⟩
  |oD bD hh=>
   simp only[kg,Bool.and_eq_true]at hp;exact⟨by simp[aX,hp.1],jE hr cL hp.2 UL (next _ _ bD fun m hm=>by simp only[List.mem_append,not_or]at hm;exact hm)⟩
  |oE bD=>
   simp only[kg,Bool.and_eq_true]at hp;exact⟨by simp[aX,hp.1],jE hr cL hp.2 UL (next _ _ bD fun m hm=>⟨hm,by simp⟩)⟩
  |bad=>exact absurd rfl (oO _ List.mem_cons_self)
theorem nY {g:ab}:∀{ls:List VN} {es:List dZ} {ρ:Gh} {F:Nat→Prop} {o:Ob} {h:ab} {j:Nat},uD oF ρ F o h ls es→(∀l∈ls,l.1≠ .bad)→sF bs i j ls=true→cd bs i (.du g g) j es=true
 |_,_,ρ,F,_,h,j,.nil _,_,_=>rfl
 |_,_,ρ,F,o,h,j,.cons (ls:=ls) hl hw hs hF cZ RY tV bT hr,oO,hp=>by
  have cL:∀l∈ls,l.1≠ .bad:=fun l hl=>oO l (List.mem_cons_of_mem _ hl);simp only[cd,Bool.and_eq_true];cases hl with
  |pure bD=>exact⟨rfl,nY hr cL hp⟩
  |alloc bD=>exact⟨rfl,nY hr cL hp⟩
  |IY bD=>exact⟨by simp[aX,il],nY hr cL hp⟩
  |lu bD=>exact⟨by simp[aX,il],nY hr cL hp⟩
  |zI bD=>exact⟨by simp[aX,il],nY hr cL hp⟩
  |du bD=>simp only[sF,Bool.and_eq_true]at hp;exact⟨by simp[aX,hp.1],nY hr cL hp.2⟩
  |oD bD=>simp only[sF,Bool.and_eq_true]at hp;exact⟨by simp[aX,hp.1],nY hr cL hp.2⟩
  |oE bD=>simp only[sF,Bool.and_eq_true]at hp;exact⟨by simp[aX,hp.1],nY hr cL hp.2⟩
  |bad=>exact absurd rfl (oO _ List.mem_cons_self)
theorem Wx {h h':ab} (W:Wf h) (same:∀x,x<h.size→h'.get x=h.get x) {b:Nat} {cs:List Value} (hr:h.rd b=some cs):h'.rd b=some cs:=by
 obtain⟨r,h1,h2,h3⟩:=rd_some hr;obtain⟨f1,t1,wW,hg⟩:=dJ h3;obtain⟨cr,jX⟩:=bO h1;obtain⟨ua,q1,q2,mI⟩:=dP h1;rw[hg]at mI;cases mI;have a1:=same b (W.lt hg);have a2:=same r.1 (W.lt jX);exact dD (bM (a1.trans hg) (a2.trans jX)) h2 (aB (a1.trans hg))
theorem R1 {h h':ab} (W:Wf h) (same:∀x,x<h.size→h'.get x=h.get x) {b:Nat} (hb:b<h.size) {cs:List Value} (hr:h'.rd b=some cs):h.rd b=some cs:=by
 obtain⟨r,h1,h2,h3⟩:=rd_some hr;obtain⟨f1,t1,wW,hg⟩:=dJ h3;obtain⟨cr,jX⟩:=bO h1;obtain⟨ua,q1,q2,mI⟩:=dP h1;rw[hg]at mI;cases mI;have a1:=(same b hb).symm.trans hg;have hle:=W.le _ _ _ _ _ a1;have a2:=(same r.1 om).symm.trans jX;exact dD (bM a1 a2) h2 (aB a1)
theorem KX {g g' h:ab} (W:Wf g) (hG:∀b,b<g.size→g'.get b=g.get b) (hq:∀b,b<g.size→h.get b=g.get b) {q:RQ} (hn:lJ q h):fE g g' q=true:=by
 by_cases hb:q.dw<g.size
 ·have k1:=jn (h:=h) (h':=g) hn (.inr (hq _ hb).symm) fun cs hr=>R1 W hq hb hr;exact(jn k1.1 (.inr (hG _ hb)) fun cs hr=>Wx W hG hr).2
 ·unfold fE lC;have e:Nat.blt q.dw g.size=false:=by
   cases hx:Nat.blt q.dw g.size with
   |false=>rfl
   |true=>exact absurd (aS.1 hx) hb
  rw[e];rfl
theorem nZ {g g':ab} (W:Wf g) (hG:∀b,b<g.size→g'.get b=g.get b):∀{ls:List VN} {es:List dZ} {ρ:Gh} {F:Nat→Prop} {o:Ob} {h:ab} {q:Bool} {j:Nat},uD oF ρ F o h ls es→(∀l∈ls,l.1≠ .bad)→jK bs i q j ls=true→
 (q=true→g.size≤h.size∧∀b,b<g.size→h.get b=g.get b)→cd bs i (.du g g') j es=true
 |_,_,ρ,F,_,h,q,j,.nil _,_,_,_=>rfl
 |_,_,ρ,F,o,h,q,j,.cons (ls:=ls) hl hw hs hF cZ RY tV bT hr,oO,hp,hq=>by
  have cL:∀l∈ls,l.1≠ .bad:=fun l hl=>oO l (List.mem_cons_of_mem _ hl);simp only[cd,Bool.and_eq_true];have rdc:∀{x:RQ},(q||ordered bs i j)=true→lJ x h→aX bs i (.du g g') j (.rd x h)=true:=fun {x} ho hn=>by
   rcases Bool.or_eq_true _ _▸ho with e|e
   ·simp[aX,KX W hG (hq e).2 hn]
   ·simp[aX,e]
  cases hl with
  |pure bD hh=>subst hh;exact⟨rfl,nZ W hG hr cL hp hq⟩
  |alloc bD=>exact⟨rfl,nZ W hG hr cL (q:=false) hp fun e=>by cases e⟩
  |IY bD hh hFq hc hn=>subst hh;simp only[jK,Bool.and_eq_true]at hp;exact⟨rdc hp.1 hn,nZ W hG hr cL hp.2 hq⟩
  |lu bD hh hy hb hn=>subst hh;simp only[jK,Bool.and_eq_true]at hp;exact⟨rdc hp.1 hn,nZ W hG hr cL hp.2 hq⟩
  |zI bD hh hy hb hx fP=>subst hh;simp only[jK,Bool.and_eq_true]at hp;exact⟨rdc hp.1 ⟨_,fP,hx.Dm.1⟩,nZ W hG hr cL hp.2 hq⟩
  |du bD=>simp only[jK,Bool.and_eq_true]at hp;exact⟨by simp[aX,hp.1],nZ W hG hr cL (q:=false) hp.2 fun e=>by cases e⟩
  |oD bD hh=>subst hh;simp only[jK,Bool.and_eq_true]at hp;exact⟨by simp[aX,hp.1],nZ W hG hr cL hp.2 hq⟩
  |oE bD hG2=>
   simp only[jK,Bool.and_eq_true]at hp;exact⟨by simp[aX,hp.1],nZ W hG hr cL hp.2 fun e=>⟨Nat.le_trans (hq e).1 hs,fun b hb=>(hG2 b (Nat.lt_of_lt_of_le hb (hq e).1)).trans ((hq e).2 b hb)⟩⟩
  |bad=>exact absurd rfl (oO _ List.mem_cons_self)
theorem EH:∀{es:List dZ} {j:Nat},cd bs i .pure j es=true
 |[],_=>rfl
 |e::es,j=>by simp only[cd,Bool.and_eq_true];exact⟨by cases e<;>rfl,EH⟩
theorem AE {g g':ab} (W:Wf g):∀{es:List dZ} {j:Nat},cd bs i (.alloc g g') j es=true
 |[],_=>rfl
 |e::es,j=>by
  simp only[cd,Bool.and_eq_true];exact⟨by cases e<;>first|rfl |exact wD W _,AE W⟩
theorem gi:∀{ls:List VN} {es:List dZ} {ρ:Gh} {F:Nat→Prop} {o:Ob} {h:ab} {j:Nat},uD oF ρ F o h ls es→fG bs oF j ls=true→lD bs j es=true
 |_,_,ρ,F,_,h,j,.nil _,_=>rfl
 |_,_,ρ,F,o,h,j,.cons (h':=h') (l:=l) (e:=e) (ls:=ls) hl hw hs hF cZ RY tV bT hr,hd=>by
  have oO:=sV hd;have cL:∀l∈ls,l.1≠ .bad:=fun l hl=>oO l (List.mem_cons_of_mem _ hl);simp only[lD,Bool.and_eq_true];cases hl with
  |pure=>exact⟨⟨rfl,EH⟩,gi hr hd⟩
  |alloc=>exact⟨⟨rfl,AE hw⟩,gi hr hd⟩
  |IY bD hh hFq hc hn=>subst hh;exact⟨⟨by simp only[lZ,aS];exact yd hw hn,UK hc hr cL (hF _ hFq) hn⟩,gi hr hd⟩
  |lu bD hh hy hb hn=>
   subst hh;simp only[fG,Bool.and_eq_true]at hd;refine⟨⟨by simp only[lZ,aS];exact yd hw hn,pz hr cL hd.1 fun _=>?_⟩,gi hr hd.2⟩;obtain⟨⟨y',r1⟩,r2,_⟩:=bD _ _ hy (by simp);exact⟨⟨y',r1⟩,by unfold At at hb ⊢;rw[r2];exact hb,hn⟩
  |zI bD hh hy hb hx fP=>
   rename_i nn pp bb vv xx yy;subst hh;simp only[fG,Bool.and_eq_true]at hd;have hn:lJ (.cells false _ _ 1) _:=⟨_,fP,hx.Dm.1⟩;refine⟨⟨by simp only[lZ,aS];exact yd hw hn,jo (x:=xx) hr cL hd.1 fun _=>?_⟩,gi hr hd.2⟩;obtain⟨⟨y',r1⟩,r2,_⟩:=bD _ _ hy (by simp);exact⟨⟨y',r1⟩,tV _ _ hb,fP,hx.bl tV⟩
  |du bD=>
   simp only[fG,Bool.and_eq_true]at hd;refine⟨⟨by simp only[lZ,aG];exact hs,jE hr cL hd.1 (by rw[hr.next.1];exact OF bT hr.next.2 tV) fun m hm RZ=>?_⟩,gi hr hd.2⟩;obtain⟨y,hy⟩:=yc hm;obtain⟨⟨y',r1⟩,r2,r3⟩:=bD m y hy RZ;refine⟨⟨y',r1⟩,fun b hb=>?_⟩;have bX:At ρ m b:=by unfold At at hb ⊢;rw[←r2];exact hb
   obtain⟨b1,b2⟩:=r3 b bX;exact⟨RY m y b hy bX,b1,b2,b1,b2⟩
  |oD bD hh=>
   subst hh;simp only[fG,Bool.and_eq_true]at hd;exact⟨⟨by simp only[lZ,aG];exact hs,nY hr cL hd.1⟩,gi hr hd.2⟩
  |oE bD hG=>
   simp only[fG,Bool.and_eq_true,Bool.or_eq_true]at hd;refine⟨⟨by simp only[lZ,aG];exact hs,?_⟩,gi hr hd.2⟩;rcases hd.1 with Ge|Ge
   ·exact nZ hw hG hr cL Ge fun _=>⟨hs,hG⟩
   ·refine jE hr cL Ge (by rw[hr.next.1];exact OF bT hr.next.2 tV) fun m hm RZ=>?_;obtain⟨y,hy⟩:=yc hm;obtain⟨⟨y',r1⟩,r2,r3⟩:=bD m y hy RZ;refine⟨⟨y',r1⟩,fun b hb=>?_⟩;have bX:At ρ m b:=by unfold At at hb ⊢;rw[←r2];exact hb
    obtain⟨b1,b2⟩:=r3 b bX;exact⟨RY m y b hy bX,b1,b2,b1,b2⟩
  |bad=>exact absurd rfl (oO _ List.mem_cons_self)
end
section
variable {T E:Env} {X:Cx} {ρ:Gh} {F:Nat→Prop} {o:Ob} {c n:Nat} {af:AF} {f:Fr} {h:ab} {ops:List Oper}
theorem qh (p:Nat×TV) (f:Fr) (t:Nat):nQ (p::f) t=if p.1=t then p.2 else nQ f t:=by
 show(match Nat.beq p.1 t with|true=>p.2|false=>nQ f t)=_;rw[D9];by_cases h:p.1=t<;>simp[h]
theorem wE {d:Option Tmp} {v:TV} {x:Value} {K:Fr→Prop} (hw:sG d n v f K) (S:dA c ρ F h f af) (hn:af.n=n) (hv:VR c ρ F h v x):∃f',K f'∧dA c ρ F h f' (af.put d x)∧(af.put d x).n=n:=by
 unfold sG at hw;cases d with
 |none=>exact⟨f,hw,S,hn⟩
 |some t=>
  simp only at hw;split at hw
  ·rename_i ht;rw[aS]at ht;refine⟨_,hw,fun u=>?_,by rw[AF.T9];exact hn⟩;rw[qh];show VR c ρ F h _ ((af.set t x).get u);rw[AF.g7];by_cases e:t=u
   ·subst e;rw[if_pos rfl,if_pos ⟨rfl,om⟩];exact hv
   ·rw[if_neg e,if_neg (fun e2=>e e2.1.symm)];exact S u
  ·exact hw.elim
theorem AG {p:Oper} {K1 K2:Prop} (hw:po ops p f K1 K2) (S:dA c ρ F h f af):(wanted ops p af=true∧K1)∨(wanted ops p af=false∧K2):=by
 unfold po at hw;unfold wanted;split at hw
 ·rename_i hg;rw[hg];exact .inl ⟨rfl,hw⟩
 ·rename_i j want hg;rw[hg];simp only
  split at hw
  ·exact hw.elim
  ·rename_i q hq;rw[hq];simp only[Option.bind_some];split at hw
   ·exact hw.elim
   ·rename_i t ht;rw[ht];simp only
    split at hw
    ·rename_i b hb;have:=S t;rw[hb]at this;rw[this.dj.1];simp only
     cases b<;>cases want<;>simp only at hw<;>simp[hw]
    ·rename_i hb;have:=S t;rw[hb]at this;obtain⟨a,ha,hl⟩:=this.sJ;rw[ha];exact .inr ⟨rfl,hw⟩
    ·exact hw.elim
theorem CJ (L:cm T E) (NX:G9 E X) {K:RK}:∀(rest:List Oper) {ρ:Gh} {F:Nat→Prop} {o:Ob} {c:Nat} {f:Fr} {af:AF} {h:ab},D7 T (VC E) n ops rest f o c K→Mem X ρ F o c h→dA c ρ F h f af→af.n=n→
 ∃n0 vY h' f' o' c' ρ' F',(∀m,n0≤m→vP E X.base (fK E X.base m) (g6 X.base (a8 E X.base m)) ops rest af h=some (vY,h'))∧K f' o' c'∧Nx X ρ F o c h ρ' F' o' c' h'∧dA c' ρ' F' h' f' vY∧vY.n=n
 |[],ρ,F,o,c,f,af,h,hw,H,S,hn=>⟨0,af,h,f,o,c,ρ,F,fun m _=>rfl,hw,.refl H,S,hn⟩
 |p::rest,ρ,F,o,c,f,af,h,hw,H,S,hn=>by
  simp only[D7]at hw;rcases AG hw S with⟨qG,hw⟩|⟨qG,hw⟩
  ·obtain⟨n1,r,v,o1,c1,iw,F1,lg,h1,h2,N,hv,_⟩:=OE L NX H S hw;have S1:dA c1 iw F1 r.h f af:=fun t=>N.bl _ _ (S t);obtain⟨f1,h3,S2,RE⟩:=wE h2 S1 hn hv;obtain⟨n2,vY,h',f',o',c',ρ',F',k1,k2,N2,k3,k4⟩:=CJ L NX rest h3 N.mem S2 RE;refine⟨max n1 n2,vY,h',f',o',c',ρ',F',fun m hm=>?_,k2,⟨N2.mem,fun t x hx=>N2.bl t x (N.bl t x hx),Nat.le_trans N.size N2.size,fun b hb=>N2.FF b (N.FF b hb),fun b cs hb hr=>N2.cZ b cs (N.FF b hb) (N.cZ b cs hb hr)⟩,k3,k4⟩;unfold vP;rw[qG];simp only
   rw[h1 m om];simp only[Option.bind_some];exact k1 m om
  ·obtain⟨f1,h3,S2,RE⟩:=wE hw S hn (show VR _ _ _ _ (.dF []) undef from .dF rfl fun i t v h=>by simp at h);obtain⟨n2,vY,h',f',o',c',ρ',F',k1,k2,N2,k3,k4⟩:=CJ L NX rest h3 H S2 RE;refine⟨n2,vY,h',f',o',c',ρ',F',fun m hm=>?_,k2,N2,k3,k4⟩;unfold vP;rw[qG];exact k1 m hm
theorem yg (L:cm T E) (NX:G9 E X) {K:List VN→RK}:∀(rest:List Oper) {ρ:Gh} {F:Nat→Prop} {o:Ob} {c:Nat} {f:Fr} {af:AF} {h:ab} {lg:List VN},sH T (VC E) n ops rest f o c lg K→Mem X ρ F o c h→dA c ρ F h f af→af.n=n→
 ∃n0 vY h' es f' o' c' ρ' F' ls,(∀m,n0≤m→lB E X.base (fK E X.base m) (g6 X.base (a8 E X.base m)) ops rest af h=some (vY,h',es))∧K (lg++ls) f' o' c'∧Nx X ρ F o c h ρ' F' o' c' h'∧dA c' ρ' F' h' f' vY∧vY.n=n∧
  uD o' ρ F o h ls es
 |[],ρ,F,o,c,f,af,h,lg,hw,H,S,hn=>⟨0,af,h,[],f,o,c,ρ,F,[],fun m _=>rfl,by simpa[sH]using hw,.refl H,S,hn,.nil H.CI⟩
 |p::rest,ρ,F,o,c,f,af,h,lg,hw,H,S,hn=>by
  simp only[sH]at hw;rcases AG hw S with⟨qG,hw⟩|⟨qG,hw⟩
  ·obtain⟨n1,r,v,o1,c1,iw,F1,l,h1,h2,N,hv,lz⟩:=OE L NX H S hw;have S1:dA c1 iw F1 r.h f af:=fun t=>N.bl _ _ (S t);obtain⟨f1,h3,S2,RE⟩:=wE h2 S1 hn hv;obtain⟨n2,vY,h',es,f',o',c',ρ',F',ls,k1,k2,N2,k3,k4,k5⟩:=yg L NX rest h3 N.mem S2 RE
   refine⟨max n1 n2,vY,h',r.log::es,f',o',c',ρ',F',(l,o)::ls,fun m hm=>?_,by simpa using k2,⟨N2.mem,fun t x hx=>N2.bl t x (N.bl t x hx),Nat.le_trans N.size N2.size,fun b hb=>N2.FF b (N.FF b hb),fun b cs hb hr=>N2.cZ b cs (N.FF b hb) (N.cZ b cs hb hr)⟩,k3,k4,
    .cons lz H.wf N.size N.FF N.cZ (fun m y b hy hb=>H.live hy hb) (fun k b hk=>by cases N.bl _ _ (VR.mp (c:=c) (F:=F) (h:=h) hk)with|mp h'=>exact h') H.CI k5⟩
   unfold lB;rw[qG];simp only
   rw[h1 m om];simp only[Option.bind_some];rw[k1 m om];rfl
  ·obtain⟨f1,h3,S2,RE⟩:=wE hw S hn (show VR _ _ _ _ (.dF []) undef from .dF rfl fun i t v h=>by simp at h);obtain⟨n2,vY,h',es,f',o',c',ρ',F',ls,k1,k2,N2,k3,k4,k5⟩:=yg L NX rest h3 H S2 RE;refine⟨n2,vY,h',.pure::es,f',o',c',ρ',F',(.pure,o)::ls,fun m hm=>?_,by simpa using k2,N2,k3,k4,.cons (.pure (.refl _) rfl) H.wf (Nat.le_refl _) (fun _ h=>h) (fun _ _ _ hr=>hr) (fun m y b hy hb=>H.live hy hb) (fun _ _ h=>h) H.CI k5⟩;unfold lB;rw[qG];simp only
   rw[k1 m hm];rfl
end
section
variable {T E:Env} {X:Cx} {n:Nat}
theorem OG {ids:List (Option Nat)} {o:Ob} {f f1:Fr} {t:Nat} (L:YB ids o f f1):ZJ ids o (nQ f t) (nQ f1 t)∨nQ f1 t= .j:=by
 induction L with
 |nil=>exact .inr rfl
 |cons h _ ih=>
  rw[qh];split
  ·rename_i e;subst e;exact .inl h
  ·exact ih
theorem adapt {ρ:Gh} {F:Nat→Prop} {o:Ob} {c:Nat} {f:Fr} {af:AF} {h:ab} (H:Mem X ρ F o c h) (S:dA c ρ F h f af) {sh:List Nat} {ids:List (Option Nat)} {U:List Nat} {f1:Fr} {o1:Ob} (hi:(iL c ids&&ph X.c0 0 ids&&mh ids U)=true)
 (hf:YB ids (ck sh o) f f1) (ho:I2 ids (ck sh o) U o1):∃ρ' F',Mem X ρ' F' o1 ids.length h∧dA ids.length ρ' F' h f1 af:=by
 simp only[Bool.and_eq_true]at hi;obtain⟨F1,S1⟩:=jO H sh;refine⟨_,F1,S1.mem.le hi.1.1 hi.1.2 hi.2 ho,fun t=>?_⟩;rcases OG (t:=t) hf with h1|h1
 ·exact p6 S1.mem _ _ _ h1 (S1.bl _ _ (S t))
 ·rw[h1];exact .j _
def mV (E:Env) (base:Nat) (code:Code) (af:AF) (h:ab) (r:Ex×AF×ab):Prop:=∃n0,∀m,n0≤m→a8 E base m code af h=some r
def Comes (E:Env) (X:Cx) (n:Nat) (code:Code) (af:AF) (h:ab) (Q:CK):Prop:=
 ∃ex vY h' f' o' c' ρ' F',mV E X.base code af h (ex,vY,h')∧Q ex f' o' c'∧Mem X ρ' F' o' c' h'∧dA c' ρ' F' h' f' vY∧vY.n=n
theorem mV.adL {a b:Code} {af oA:AF} {h h1:ab} {r:Ex×AF×ab} {base:Nat} (A:mV E base a af h (.normal,oA,h1)) (B:mV E base b oA h1 r):mV E base (.seq a b) af h r:=by
 obtain⟨n1,A⟩:=A;obtain⟨n2,B⟩:=B;refine⟨max n1 n2+1,fun m hm=>?_⟩;obtain⟨k,rfl⟩:∃k,m=k+1:=⟨m - 1,om⟩;simp only[a8];rw[A k om];exact B k om
theorem mV.aap {a b:Code} {af oA:AF} {h h1:ab} {ex:Ex} {base:Nat} (A:mV E base a af h (ex,oA,h1)) (hx:ex≠ .normal):mV E base (.seq a b) af h (ex,oA,h1):=by
 obtain⟨n1,A⟩:=A;refine⟨n1+1,fun m hm=>?_⟩;obtain⟨k,rfl⟩:∃k,m=k+1:=⟨m - 1,om⟩;simp only[a8];rw[A k om];cases ex<;>first|rfl |exact absurd rfl hx
theorem mV.UM {b:Code} {af oA:AF} {h h1:ab} {r:Ex×AF×ab} {base:Nat} (A:mV E base b af h (.normal,oA,h1)) (B:mV E base (.loop b) oA h1 r):mV E base (.loop b) af h r:=by
 obtain⟨n1,A⟩:=A;obtain⟨n2,B⟩:=B;refine⟨max n1 n2+1,fun m hm=>?_⟩;obtain⟨k,rfl⟩:∃k,m=k+1:=⟨m - 1,om⟩;simp only[a8];rw[A k om];exact B k om
theorem mV.Jm {b:Code} {af oA:AF} {h h1:ab} {ex:Ex} {base:Nat} (A:mV E base b af h (ex,oA,h1)) (hx:ex≠ .normal):mV E base (.loop b) af h (ex,oA,h1):=by
 obtain⟨n1,A⟩:=A;refine⟨n1+1,fun m hm=>?_⟩;obtain⟨k,rfl⟩:∃k,m=k+1:=⟨m - 1,om⟩;simp only[a8];rw[A k om];cases ex<;>first|rfl |exact absurd rfl hx
theorem mV.one {c:Code} {af:AF} {h:ab} {r:Ex×AF×ab} {base:Nat} (hx:∀k,a8 E base (k+1) c af h=some r):mV E base c af h r:=
 ⟨1,fun m hm=>by obtain⟨k,rfl⟩:∃k,m=k+1:=⟨m - 1,om⟩;exact hx k⟩
theorem qi {ρ:Gh} {F:Nat→Prop} {o:Ob} {c:Nat} {f:Fr} {af:AF} {h:ab} {K:RK} (H:Mem X ρ F o c h) (S:dA c ρ F h f af) (ht:jj X.c0 f o c K):∃f1 o1 c1 ρ' F',K f1 o1 c1∧Mem X ρ' F' o1 c1 h∧dA c1 ρ' F' h f1 af:=by
 obtain⟨sh,ids,U,f1,o1,⟨hf,ho,hi⟩,hK⟩:=ht;obtain⟨ρ',F',H',S'⟩:=adapt H S hi hf ho;exact⟨f1,o1,_,ρ',F',hK,H',S'⟩
theorem aaq {dM:List Nat} (L:cm T E) (NX:G9 E X):∀(code:Code) {ρ:Gh} {F:Nat→Prop} {o:Ob} {c:Nat} {f:Fr} {af:AF} {h:ab} {Q:CK},wp T (VC E) n X.c0 dM code f o c Q→Mem X ρ F o c h→dA c ρ F h f af→af.n=n→Comes E X n code af h Q:=by
 intro code
 induction code with
 |skip=>intro ρ F o c f af h Q hw H S hn;exact⟨.normal,af,h,f,o,c,ρ,F,.one fun k=>rfl,hw,H,S,hn⟩
 |exit id=>intro ρ F o c f af h Q hw H S hn;exact⟨.exit id,af,h,f,o,c,ρ,F,.one fun k=>rfl,hw,H,S,hn⟩
 |ret=>intro ρ F o c f af h Q hw H S hn;exact⟨.ret,af,h,f,o,c,ρ,F,.one fun k=>rfl,hw,H,S,hn⟩
 |region id ops draw=>
  intro ρ F o c f af h Q hw H S hn;simp only[wp]at hw;cases draw with
  |false=>
   obtain⟨n0,vY,h',f',o',c',ρ',F',k1,k2,N,k3,k4⟩:=CJ L NX ops.toList hw H S hn;refine⟨.normal,vY,h',f',o',c',ρ',F',⟨n0+1,fun m hm=>?_⟩,k2,N.mem,k3,k4⟩;obtain⟨k,rfl⟩:∃k,m=k+1:=⟨m - 1,om⟩;simp only[a8,lE];have:=k1 k om;unfold fK at this;rw[this];rfl
  |true=>
   simp only at hw;split at hw
   ·rename_i bW;obtain⟨n0,vY,h',es,f',o',c',ρ',F',ls,k1,k2,N,k3,k4,k5⟩:=yg L NX ops.toList hw H S hn;simp only[List.nil_append]at k2;split at k2
    ·rename_i hd;refine⟨.normal,vY,h',f',o',c',ρ',F',⟨n0+1,fun m hm=>?_⟩,k2,N.mem,k3,k4⟩;obtain⟨k,rfl⟩:∃k,m=k+1:=⟨m - 1,om⟩;simp only[a8,lE];have:=k1 k om;unfold fK at this;rw[hn,bW,this];simp only[bF,Option.bind_some];rw[gi k5 hd]
    ·exact k2.elim
   ·exact hw.elim
 |seq a b iha ihb=>
  intro ρ F o c f af h Q hw H S hn;simp only[wp]at hw;obtain⟨ex,oA,h1,f1,o1,c1,iw,F1,r1,q1,H1,S1,n1⟩:=iha hw H S hn;cases ex with
  |normal=>
   obtain⟨Wy,af2,h2,f2,o2,c2,YM,F2,r2,q2,H2,S2,n2⟩:=ihb q1 H1 S1 n1;exact⟨Wy,af2,h2,f2,o2,c2,YM,F2,r1.adL r2,q2,H2,S2,n2⟩
  |exit id=>exact⟨.exit id,oA,h1,f1,o1,c1,iw,F1,r1.aap (by simp),q1,H1,S1,n1⟩
  |ret=>exact⟨.ret,oA,h1,f1,o1,c1,iw,F1,r1.aap (by simp),q1,H1,S1,n1⟩
 |cond q t e iht ihe=>
  intro ρ F o c f af h Q hw H S hn;simp only[wp]at hw;split at hw
  ·exact hw.elim
  ·rename_i lM;obtain⟨v,h1,h2⟩:=p8 (E:=E) L ((NX.now H).sub L) S lM;split at hw
   ·rename_i b hb;rw[hb]at h2;have:=h2.dj.1;subst this;have key:∀{x:Code} {r:Ex×AF×ab},mV E X.base x af h r→(∀k,a8 E X.base (k+1) (.cond q t e) af h=a8 E X.base k x af h)→mV E X.base (.cond q t e) af h r:=by
     rintro x r ⟨n0,hr⟩ hk;refine⟨n0+1,fun m hm=>?_⟩;obtain⟨k,rfl⟩:∃k,m=k+1:=⟨m - 1,om⟩;rw[hk];exact hr k om
    split at hw
    ·obtain⟨ex,oA,zq,f1,o1,c1,iw,F1,r1,q1,H1,S1,n1⟩:=iht hw H S hn;exact⟨ex,oA,zq,f1,o1,c1,iw,F1,key r1 fun k=>by simp only[a8,h1,Option.bind_some,Dl],q1,H1,S1,n1⟩
    ·obtain⟨ex,oA,zq,f1,o1,c1,iw,F1,r1,q1,H1,S1,n1⟩:=ihe hw H S hn;exact⟨ex,oA,zq,f1,o1,c1,iw,F1,key r1 fun k=>by simp only[a8,h1,Option.bind_some,Dl],q1,H1,S1,n1⟩
   ·exact hw.elim
 |block id b ih=>
  intro ρ F o c f af h Q hw H S hn;simp only[wp]at hw
  have key:∀{n0:Nat} {Wy:Ex} {oA:AF} {h1:ab},(∀k,n0≤k→a8 E X.base (k+1) (.block id b) af h=some (Wy,oA,h1))→mV E X.base (.block id b) af h (Wy,oA,h1):=fun {n0} {Wy} {oA} {h1} hk=>
   ⟨n0+1,fun m hm=>by obtain⟨k,rfl⟩:∃k,m=k+1:=⟨m - 1,om⟩;exact hk k om⟩
  split at hw
  ·obtain⟨ex,oA,h1,f1,o1,c1,iw,F1,⟨n0,r1⟩,q1,H1,S1,n1⟩:=ih hw H S hn;cases ex with
   |normal=>exact⟨.normal,oA,h1,f1,o1,c1,iw,F1,key (n0:=n0) fun k hk=>by simp only[a8,r1 k hk],q1,H1,S1,n1⟩
   |ret=>exact⟨.ret,oA,h1,f1,o1,c1,iw,F1,key (n0:=n0) fun k hk=>by simp only[a8,r1 k hk],q1,H1,S1,n1⟩
   |exit nk=>
    simp only at q1;split at q1
    ·rename_i Wz;exact⟨.normal,oA,h1,f1,o1,c1,iw,F1,key (n0:=n0) fun k hk=>by simp only[a8,r1 k hk,Wz,cond_true],q1,H1,S1,n1⟩
    ·rename_i Wz;exact⟨.exit nk,oA,h1,f1,o1,c1,iw,F1,key (n0:=n0) fun k hk=>by simp only[a8,r1 k hk,Wz,cond_false],q1,H1,S1,n1⟩
  ·obtain⟨MV,hw,aav⟩:=hw;obtain⟨ex,oA,h1,f1,o1,c1,iw,F1,⟨n0,r1⟩,q1,H1,S1,n1⟩:=ih hw H S hn;cases ex with
   |normal=>
    obtain⟨f2,o2,c2,YM,F2,hM,H2,S2⟩:=qi H1 S1 q1;exact⟨.normal,oA,h1,f2,o2,c2,YM,F2,key (n0:=n0) fun k hk=>by simp only[a8,r1 k hk],aav _ _ _ hM,H2,S2,n1⟩
   |ret=>exact⟨.ret,oA,h1,f1,o1,c1,iw,F1,key (n0:=n0) fun k hk=>by simp only[a8,r1 k hk],q1,H1,S1,n1⟩
   |exit nk=>
    simp only at q1;split at q1
    ·rename_i Wz;obtain⟨f2,o2,c2,YM,F2,hM,H2,S2⟩:=qi H1 S1 q1;exact⟨.normal,oA,h1,f2,o2,c2,YM,F2,key (n0:=n0) fun k hk=>by simp only[a8,r1 k hk,Wz,cond_true],aav _ _ _ hM,H2,S2,n1⟩
    ·rename_i Wz;exact⟨.exit nk,oA,h1,f1,o1,c1,iw,F1,key (n0:=n0) fun k hk=>by simp only[a8,r1 k hk,Wz,cond_false],q1,H1,S1,n1⟩
 |loop b ih=>
  intro ρ F o c f af h Q hw H S hn;simp only[wp]at hw;split at hw;rotate_left
  ·have main:∀(k:Nat) {ρ:Gh} {F:Nat→Prop} {o:Ob} {c:Nat} {f:Fr} {af:AF} {h:ab},An (fun f o c Q=>wp T (VC E) n X.c0 dM b f o c Q) k f o c Q→Mem X ρ F o c h→dA c ρ F h f af→af.n=n→Comes E X n (.loop b) af h Q:=by
    intro k
    induction k with
    |zero=>intro ρ F o c f af h hw;exact hw.elim
    |succ k ihk=>
     intro ρ F o c f af h hw H S hn;simp only[An]at hw;obtain⟨ex,oA,h1,f1,o1,c1,iw,F1,r1,q1,H1,S1,n1⟩:=ih hw H S hn;cases ex with
     |normal=>
      obtain⟨ex,af3,h3,f3,o3,c3,ρ3,F3,r3,q3,H3,S3,n3⟩:=ihk q1 H1 S1 n1;exact⟨ex,af3,h3,f3,o3,c3,ρ3,F3,r1.UM r3,q3,H3,S3,n3⟩
     |exit id=>exact⟨.exit id,oA,h1,f1,o1,c1,iw,F1,r1.Jm (by simp),q1,H1,S1,n1⟩
     |ret=>exact⟨.ret,oA,h1,f1,o1,c1,iw,F1,r1.Jm (by simp),q1,H1,S1,n1⟩
   exact main 64 hw H S hn
  obtain⟨Inv,⟨k0,hI⟩,aaw⟩:=hw;obtain⟨f1,o1,c1,iw,F1,hI1,H1,S1⟩:=qi H S hI;have main:∀(k:Nat) {ρ:Gh} {F:Nat→Prop} {o:Ob} {c:Nat} {f:Fr} {af:AF} {h:ab},Inv k f o c→Mem X ρ F o c h→dA c ρ F h f af→af.n=n→Comes E X n (.loop b) af h Q:=by
   intro k
   induction k using Nat.strongRecOn with
   |ind k ihk=>
    intro ρ F o c f af h hI H S hn;obtain⟨ex,oA,h1,f1,o1,c1,iw,F1,r1,q1,H1,S1,n1⟩:=ih (aaw k f o c hI) H S hn;cases ex with
    |normal=>
     obtain⟨k',ht,bH⟩:=q1;obtain⟨f2,o2,c2,YM,F2,hI2,H2,S2⟩:=qi H1 S1 ht;obtain⟨ex,af3,h3,f3,o3,c3,ρ3,F3,r3,q3,H3,S3,n3⟩:=ihk k' bH hI2 H2 S2 n1;exact⟨ex,af3,h3,f3,o3,c3,ρ3,F3,r1.UM r3,q3,H3,S3,n3⟩
    |exit id=>exact⟨.exit id,oA,h1,f1,o1,c1,iw,F1,r1.Jm (by simp),q1,H1,S1,n1⟩
    |ret=>exact⟨.ret,oA,h1,f1,o1,c1,iw,F1,r1.Jm (by simp),q1,H1,S1,n1⟩
  exact main k0 hI1 H1 S1 hn
 |_=>intro ρ F o c f af h Q hw H S hn;exact hw.elim
end
section
variable {T E:Env} {X:Cx} {ρ:Gh} {F:Nat→Prop} {o:Ob} {c n:Nat} {f:Fr} {af:AF} {h:ab}
theorem rQ:∀(l:List Value) (i:Nat) (f:AF) (t:Nat),(AF.oS l i f).get t=(if i≤t∧t<i+l.length∧t<f.n then(match l[t - i]? with|some v=>v|none=>undef)else f.get t)∧(AF.oS l i f).n=f.n
 |[],i,f,t=>by
  refine⟨?_,rfl⟩;rw[if_neg (by simp only[List.length_nil];omega)];rfl
 |v::l,i,f,t=>by
  simp only[AF.oS];obtain⟨h1,h2⟩:=rQ l (i+1) (f.set i v) t;rw[AF.z7]at h1 h2;refine⟨?_,h2⟩;rw[h1];by_cases hx:i+1≤t∧t<i+1+l.length∧t<f.n
  ·rw[if_pos hx,if_pos (by simp only[List.length_cons];omega)];have:t - i=(t - (i+1))+1:=by omega
   rw[this,List.getElem?_cons_succ]
  ·rw[if_neg hx,AF.g7];by_cases e:t=i
   ·subst e;by_cases hn:t<f.n
    ·rw[if_pos ⟨rfl,hn⟩,if_pos (by simp only[List.length_cons];omega)];simp
    ·rw[if_neg (fun h=>hn h.2),if_neg om]
   ·rw[if_neg (fun h=>e h.1),if_neg (by simp only[List.length_cons];omega)]
theorem AH:∀(l:List TV) (i t:Nat),nQ (sI i l) t=if i≤t then(match l[t - i]? with|some v=>v|none=>.j)else .j
 |[],i,t=>by simp[sI,nQ]
 |v::l,i,t=>by
  simp only[sI];rw[qh,AH l (i+1) t];by_cases e:i=t
  ·subst e;simp
  ·rw[if_neg e];by_cases hx:i+1≤t
   ·rw[if_pos hx,if_pos om];have:t - i=(t - (i+1))+1:=by omega
    rw[this,List.getElem?_cons_succ]
   ·rw[if_neg hx];by_cases hy:i≤t
    ·omega
    ·rw[if_neg hy]
theorem EI {args:List TV} {dX:List Value} (H:dI c ρ F h args dX) (hn:args.length≤n):dA c ρ F h (sI 0 args) (AF.enter dX n)∧(AF.enter dX n).n=n:=by
 refine⟨fun t=>?_,(rQ dX 0 _ 0).2⟩;rw[AH,if_pos (Nat.zero_le _)];cases ht:args[t - 0]? with
 |none=>exact .j _
 |some v=>
  simp only
  have bH:=(List.getElem?_eq_some_iff.1 ht).1;obtain⟨x,hx⟩:∃x,dX[t - 0]? =some x:=⟨_,List.getElem?_eq_getElem (by rw[←H.1];exact bH)⟩;have:=(rQ dX 0 ⟨.nil,n⟩ t).1;unfold AF.enter;rw[this,if_pos ⟨Nat.zero_le _,by rw[←H.1];omega,by simp only;omega⟩,hx];exact H.2 _ _ _ ht hx
theorem yk (L:cm T E) (H:Mem X ρ F o c h) (S:dA c ρ F h f af):∀{rs:List ResultVar} {vs:List TV},D8 T f o rs=some vs→∃xs,df E h af rs=some xs∧dI c ρ F h vs xs
 |[],vs,hv=>by simp[D8]at hv;subst hv;exact⟨[],rfl,.nil⟩
 | .tmp t::l,vs,hv=>by
  unfold D8 at hv;split at hv
  ·rename_i ws hws;cases hv;obtain⟨xs,h1,h2⟩:=yk L H S hws;exact⟨_,by simp[df,h1],.cons (S t) h2⟩
  ·cases hv
 | .cell a t::l,vs,hv=>by
  unfold D8 at hv;split at hv
  ·rename_i m q agg n ha hs;split at hv
   ·rename_i cs hl;split at hv
    ·rename_i w hw;split at hv
     ·rename_i v ws vt hws nS;cases hv;obtain⟨xs,h1,h2⟩:=yk L H S hws;obtain⟨Sm,hO⟩:=H.b7 hl;have hp:=S a;rw[ha]at hp;cases hO with
      |cells hb hg oy hc=>
       rename_i Sq b aQ cs';cases hE:af.get a with
       |pointer p=>
        rw[hE]at hp;cases hp with
        |ptr bX=>
         rw[hb]at bX;cases bX;rw[aW]at hw;obtain⟨w1,rfl⟩:=hw;obtain⟨S1,S2,S3,_,a1,a2,a3⟩:=hc.part q n;obtain⟨k2,_⟩:=a2.YE (fun t v hv hf=>hv.dN hf) nS;have k1:takeN n (cs'.drop q)=some ((cs'.drop q).take n):=by
          rw[aW];have:=hc.len;simp only[List.length_drop]at w1 ⊢;exact⟨om,trivial⟩
         obtain⟨x,k3,k4⟩:=fX vt k2;have Eu:M.ae h b q n=some ((cs'.drop q).take n):=by
          unfold M.ae;rw[dD (bM hg hg) oy (aB hg)];exact k1
         exact⟨x::xs,by simp[df,hE,jc,L.shape hs,Eu,k3,h1],.cons k4 h2⟩
       |_=>rw[hE]at hp;cases hp
     ·cases hv
    ·cases hv
   ·cases hv
  ·cases hv
theorem R3 {vs:List TV} {xs:List Value} (H:dI c ρ F h vs xs):VR c ρ F h (Wa vs) (cX xs):=by
 match vs,xs,H with
 |[],xs,H=>rw[H.bK];exact .iM .nil
 |[v],xs,H=>
  obtain⟨x,m,rfl,h1,h2⟩:=H.aP;rw[h2.bK];exact h1
 |v::w::l,xs,H=>
  obtain⟨x,m,rfl,h1,h2⟩:=H.aP;obtain⟨y,m',rfl,h3,h4⟩:=h2.aP;exact .iM (by simpa using dI.cons h1 (.cons h3 h4))
theorem VC.WA (L:cm T E) {g:FuncId} {fn:Func} {code:Code} {c0:Nat} {args:List TV} {o0:Ob} {R:TV→Ob→Nat→Prop} (hf:E.func g=some fn)
 (ho:∀base ρ F h S dX,Mem (zy base ρ F o0 c0 h S) ρ F o0 c0 h→dI c0 ρ F h args dX→E.tS base g dX h=none) (hb:fn.body=some code) (hlen:Nat.ble args.length fn.ntmps=true)
 (dM:List Nat) (hw:wp T (VC E) fn.ntmps c0 dM code (sI 0 args) o0 c0 (NZ T c0 fn.results.toList R)):VC E g c0 args o0 R:=by
 intro base ρ F h S0 dX HN H HO OH;obtain⟨S,hn⟩:=EI OH (aG.1 hlen);obtain⟨ex,vY,h',f',o',c',ρ',F',⟨n0,hr⟩,hq,M',S',Rb⟩:=aaq (X:=zy base ρ F o0 c0 h S0) L HN code hw H S hn;unfold NZ at hq
 have fin:∀{vs:List TV} {sh:List Nat} {ids:List (Option Nat)} {U:List Nat} {r:TV} {o1:Ob},(ex= .normal∨ex= .ret)→D8 T f' o' fn.results.toList=some vs→(iL c' ids&&ph c0 0 ids&&mh ids U)=true→ZJ ids (ck sh o') (Wa vs) r→I2 ids (ck sh o') U o1→R r o1 ids.length→
  ∃n v h2 ρ' F' r o' c',fK E base n g dX h=some (v,h2)∧R r o' c'∧Mem (zy base ρ F o0 c0 h S0) ρ' F' o' c' h2∧VR c' ρ' F' h2 r v:=by
  intro vs sh ids U r o1 hex QT hi hle hO hR;simp only[Bool.and_eq_true]at hi;obtain⟨xs,k1,k2⟩:=yk L M' S' QT;obtain⟨F1,S1⟩:=jO M' sh;have M2:=S1.mem.le hi.1.1 hi.1.2 hi.2 hO;refine⟨n0,cX xs,h',_,F1,r,o1,ids.length,?_,hR,M2,p6 S1.mem _ _ _ hle (S1.bl _ _ (R3 k2))⟩;unfold fK gy;rw[hf];simp only[Option.bind_some,ho _ _ _ _ _ _ H OH,hb,←OH.1,hlen,bF];have kQ:=hr n0 (Nat.le_refl _);have pX:a8 E base n0 code (AF.enter dX fn.ntmps) h=some (ex,vY,h'):=kQ;rw[pX];rcases hex with rfl |rfl<;>simp[k1]
 cases ex with
 |exit id=>exact hq.elim
 |normal=>
  simp only at hq;split at hq
  ·rename_i vs QT;obtain⟨sh,ids,U,r,o1,⟨hle,hO,hi⟩,hR⟩:=hq;exact fin (.inl rfl) QT hi hle hO hR
  ·exact hq.elim
 |ret=>
  simp only at hq;split at hq
  ·rename_i vs QT;obtain⟨sh,ids,U,r,o1,⟨hle,hO,hi⟩,hR⟩:=hq;exact fin (.inr rfl) QT hi hle hO hR
  ·exact hq.elim
theorem VC.enter (L:cm T E) {g:FuncId} {fn:Func} {code:Code} {c0:Nat} {args:List TV} {o0:Ob} {R:TV→Ob→Nat→Prop} (hf:E.func g=some fn) (ho:∀b a,E.tS b g a=fun _=>none) (hb:fn.body=some code) (hlen:Nat.ble args.length fn.ntmps=true)
 (dM:List Nat) (hw:wp T (VC E) fn.ntmps c0 dM code (sI 0 args) o0 c0 (NZ T c0 fn.results.toList R)):VC E g c0 args o0 R:=
 VC.WA L hf (fun _ _ _ _ _ _ _ _=>congrFun (ho _ _) _) hb hlen dM hw
theorem VC.mono {g:FuncId} {c0:Nat} {args:List TV} {o0:Ob} {R R':TV→Ob→Nat→Prop} (H:VC E g c0 args o0 R) (hR:∀r o c,R r o c→R' r o c):VC E g c0 args o0 R':=by
 intro base ρ F h S dX hN hM hO hA;obtain⟨n,v,h',ρ',F',r,o',c',h1,h2,h3⟩:=H base ρ F h S dX hN hM hO hA;exact⟨n,v,h',ρ',F',r,o',c',h1,hR _ _ _ h2,h3⟩
theorem VC.tS {g:FuncId} {c0:Nat} {args:List TV} {o0:Ob} {v:Value} (hf:(E.func g).isSome=true) (ho:∀b a h,a.length=args.length→E.tS b g a h=some (v,h)) (hp:aC v=true):VC E g c0 args o0 (fun r o c=>r= .s v∧o=o0∧c=c0):=by
 intro base ρ F h S dX hN hM hO hA;obtain⟨fn,hf⟩:=Option.isSome_iff_exists.1 hf;refine⟨0,v,h,ρ,F,.s v,o0,c0,?_,⟨rfl,rfl,rfl⟩,hM,.s hp⟩;unfold fK gy;rw[hf];simp only[Option.bind_some,ho _ dX h hA.1.symm]
end
section
variable {E:Env}
def OI (sub:TypeId→Option (List Nat)) (E:Env):List Field→Nat→Option (List Nat)
 |[],_=>some []
 |f::fs,off=>bF (f.name != "_"&&Nat.beq f.offset off)<|(sub f.type).bind fun ks=>(eQ E f.type).bind fun s=>bF (Nat.beq s.2 ks.length)<|(OI sub E fs (off+ks.length)).bind fun r=>some (ks++r)
def YN (E:Env):Nat→TypeId→Option (List Nat)
 |0,_=>none
 |d+1,t=>(E.desc t).bind fun ds=>match ds with
  | .bool=>some [1]
  | .int k=>some [iZ k]
  | .string=>some [2]
  | .struct fields=>bF (E.qR t) (OI (YN E d) E fields.toList 0)
  |_=>none
def mr:List Nat→List Value→List Value→Option Bool
 |[],[],[]=>some true
 |k::ks,v::l,w::m=>(match Nat.blt 0 k&&Nat.beq (a6 v) k&&Nat.beq (a6 w) k with
  |true=>(match mr ks l m with|some r=>some (Kv v w&&r)|none=>none)
  |false=>none)
 |_,_,_=>none
theorem OJ:∀{zs:List Value} {xs ys:List TV} {r:Bool},ma zs xs ys=some r→mr (zs.map a6) (xs.map Wm) (ys.map Wm)=some r
 |[],[],[],r,h=>by simpa[ma,mr]using h
 |[],[],_::_,r,h=>by simp[ma]at h
 |[],x::l,ys,r,h=>by simp[ma]at h
 |z::zs,[],ys,r,h=>by simp[ma]at h
 |z::zs,x::l,[],r,h=>by cases x<;>simp[ma]at h
 |z::zs,x::l,y::m,r,h=>by
  cases x<;>try(simp[ma]at h;done)
  rename_i v;cases y<;>try(simp[ma]at h;done)
  rename_i w;simp only[ma]at h;simp only[List.map_cons,mr];cases hc:(Nat.blt 0 (a6 z)&&Nat.beq (a6 v) (a6 z)&&Nat.beq (a6 w) (a6 z))with
  |false=>rw[hc]at h;cases h
  |true=>
   rw[hc]at h;simp only at h;cases hq:ma zs l m with
   |none=>rw[hq]at h;cases h
   |some r'=>
    rw[hq]at h;have lx:(Nat.blt 0 (a6 z)&&Nat.beq (a6 (Wm (.s v))) (a6 z)&&Nat.beq (a6 (Wm (.s w))) (a6 z))=true:=hc;rw[lx,OJ hq];exact h
theorem vA:∀{ks UN:List Nat} {l l' m m':List Value},l.length=ks.length→m.length=ks.length→mr (ks++UN) (l++l') (m++m')=(mr ks l m).bind fun a=>(mr UN l' m').bind fun b=>some (a&&b)
 |[],UN,[],l',[],m',_,_=>by simp[mr]
 |k::ks,UN,v::l,l',w::m,m',h1,h2=>by
  simp only[List.cons_append,mr];rw[vA (by simpa using h1) (by simpa using h2)];split
  ·cases mr ks l m<;>cases mr UN l' m'<;>simp[Bool.and_assoc]
  ·rfl
 |[],_,_::_,_,_,_,h1,_=>by simp at h1
 |[],_,[],_,_::_,_,_,h2=>by simp at h2
 |_::_,_,[],_,_,_,h1,_=>by simp at h1
 |_::_,_,_::_,_,[],_,_,h2=>by simp at h2
theorem yl:∀{ks:List Nat} {l m:List Value} {r:Bool},mr ks l m=some r→l.length=ks.length∧m.length=ks.length
 |[],[],[],r,_=>⟨rfl,rfl⟩
 |[],[],_::_,r,h=>by simp[mr]at h
 |[],_::_,_,r,h=>by simp[mr]at h
 |_::_,[],_,r,h=>by simp[mr]at h
 |_::_,_::_,[],r,h=>by simp[mr]at h
 |k::ks,v::l,w::m,r,h=>by
  simp only[mr]at h;split at h
  ·split at h
   ·rename_i hq;obtain⟨h1,h2⟩:=yl hq;exact⟨by simp[h1],by simp[h2]⟩
   ·cases h
  ·cases h
def WB (agg:Bool) (l:List Value):Value:=match agg,l with
 |true,l=>.agg l.toArray
 |false,v::_=>v
 |false,[]=>undef
theorem OL (k:IntKind):3≤iZ k:=by cases k<;>simp[iZ]
theorem EJ {k k':IntKind} (h:iZ k=iZ k'):k=k':=by cases k<;>cases k'<;>simp[iZ]at h<;>rfl
theorem OM:∀(d:Nat) {t:TypeId} {ks:List Nat} {l m:List Value} {r:Bool},YN E d t=some ks→mr ks l m=some r→∃ds,E.desc t=some ds∧
 (∀s,eQ E t=some s→s.1=isAgg ds)∧vO E d t (WB (isAgg ds) l) (WB (isAgg ds) m)=some r
 |0,t,ks,l,m,r,h,_=>by simp[YN]at h
 |d+1,t,ks,l,m,r,h,hv=>by
  unfold YN at h;simp only[Option.bind_eq_some_iff]at h;obtain⟨ds,h1,h2⟩:=h;have hl:=yl hv;have WC:∀{k:Nat},ks=[k]→isAgg ds=false→(∀v w:Value,a6 v=k→a6 w=k→vO E (d+1) t v w=some (Kv v w))→∃ds,E.desc t=some ds∧(∀s,eQ E t=some s→s.1=isAgg ds)∧vO E (d+1) t (WB (isAgg ds) l) (WB (isAgg ds) m)=some r:=by
   rintro k rfl ha hq;refine⟨ds,h1,fun s hs=>?_,?_⟩
   ·unfold eQ at hs;rw[h1]at hs;simp only[Option.bind_some,ha,cond_false,Option.some.injEq]at hs;subst hs;exact ha.symm
   ·rw[ha]
    match l,m,hl with
    |[v],[w],_=>
     simp only[mr]at hv;split at hv
     ·rename_i hc;simp only[Bool.and_eq_true,beq_iff]at hc;simp only[Bool.and_true]at hv;rw[←hv];exact hq v w hc.1.2 hc.2
     ·cases hv
  split at h2
  ·cases h2;refine WC rfl rfl fun v w hk pd=>?_;cases v<;>simp[a6]at hk<;>try(rename_i i _;cases i<;>simp[iZ]at hk;done)
   cases w<;>simp[a6]at pd<;>try(rename_i i _;cases i<;>simp[iZ]at pd;done)
   simp[vO,h1,Kv]
  ·rename_i k;cases h2;refine WC rfl rfl fun v w hk pd=>?_;have hp:=OL k;cases v<;>simp[a6]at hk<;>try omega
   cases w<;>simp[a6]at pd<;>try omega
   rw[EJ hk,EJ pd];simp[vO,h1,Kv]
  ·cases h2;refine WC rfl rfl fun v w hk pd=>?_;cases v<;>simp[a6]at hk<;>try(rename_i i _;cases i<;>simp[iZ]at hk;done)
   cases w<;>simp[a6]at pd<;>try(rename_i i _;cases i<;>simp[iZ]at pd;done)
   simp[vO,h1,Kv]
  ·rename_i fields;rw[ai]at h2;obtain⟨he,hF⟩:=h2;refine⟨_,h1,fun s hs=>?_,?_⟩
   ·unfold eQ at hs;rw[h1]at hs;simp only[Option.bind_some,isAgg,cond_true,Option.bind_eq_some_iff]at hs;obtain⟨n,_,h4⟩:=hs;cases h4;rfl
   ·have key:∀(fs:List Field) (off:Nat) (ks:List Nat) (l0 m0 l m:List Value) (r:Bool),OI (YN E d) E fs off=some ks→l0.length=off→m0.length=off→mr ks l m=some r→Gu (oU E) (vO E d) (l0++l) (m0++m) fs=some r:=by
     intro fs
     induction fs with
     |nil=>
      intro off ks l0 m0 l m r hc _ _ hv;simp[OI]at hc;subst hc;cases l<;>cases m<;>simp[mr]at hv;simp[Gu,hv]
     |cons f fs ih=>
      intro off ks l0 m0 l m r hc qE Gz hv;simp only[OI,ai,Bool.and_eq_true,beq_iff,Option.bind_eq_some_iff,Option.some.injEq]at hc;obtain⟨⟨hn,WD⟩,k1,qj,s,hs,fL,k2,qk,rfl⟩:=hc;obtain⟨zF,Gw⟩:=yl hv;rw[List.length_append]at zF Gw;have el:l=l.take k1.length++l.drop k1.length:=(List.take_append_drop _ _).symm;have em:m=m.take k1.length++m.drop k1.length:=(List.take_append_drop _ _).symm;have tl:(l.take k1.length).length=k1.length:=by simp;omega
      have tm:(m.take k1.length).length=k1.length:=by simp;omega
      rw[el,em,vA tl tm]at hv;simp only[Option.bind_eq_some_iff,Option.some.injEq]at hv;obtain⟨r1,jX,r2,pX,rfl⟩:=hv;obtain⟨ds',_,aax,Wn⟩:=OM d qj jX;generalize isAgg ds'=agg at aax Wn;have Dr:=aax s hs;have part:∀(x0 x:List Value),x0.length=off→k1.length≤x.length→oU E f.type (x0++x) f.offset=some (WB agg (x.take k1.length)):=by
       intro x0 x sm hx;unfold oU;rw[hs];simp only[Option.bind_some];rw[WD,←sm,List.drop_left,fL];have ht:takeN k1.length x=some (x.take k1.length):=by rw[aW];exact⟨hx,rfl⟩
       rw[ht,Dr];cases agg with
       |true=>rfl
       |false=>
        have:s.2=1:=by
         obtain⟨a,n⟩:=s;simp only at Dr;subst Dr;unfold eQ at hs;simp only[Option.bind_eq_some_iff]at hs;obtain⟨dd,_,h5⟩:=hs;cases ZD:isAgg dd with
         |true=>
          rw[ZD]at h5;simp only[cond_true,Option.bind_eq_some_iff]at h5;obtain⟨_,_,h6⟩:=h5;cases h6
         |false=>rw[ZD]at h5;cases h5;rfl
        have hk:k1.length=1:=by omega
        rw[hk]at hx ⊢
        match x,hx with
        |v::x',_=>simp[cG,WB]
      simp only[Gu,ai];refine⟨hn,?_⟩;rw[part l0 l qE om,part m0 m Gz om];simp only[Option.bind_some,Wn];have:=ih (off+k1.length) k2 (l0++l.take k1.length) (m0++m.take k1.length) (l.drop k1.length) (m.drop k1.length) r2 qk (by rw[List.length_append,qE,tl]) (by rw[List.length_append,Gz,tm]) pX;rw[List.append_assoc,List.append_assoc,←el,←em]at this;cases r1 with
      |true=>simp only[Bool.true_and];exact this
      |false=>rfl
    have:=key fields.toList 0 ks [] [] l m r hF rfl rfl hv;simp only[List.nil_append]at this;show vO E (d+1) t (.agg l.toArray) (.agg m.toArray)=some r;unfold vO;rw[h1];simp only[Option.bind_some,ai];exact⟨he,this⟩
  ·cases h2
def uE:List Nat→List Nat→Bool
 |[],[]=>true
 |a::l,b::m=>Nat.beq a b&&uE l m
 |_,_=>false
theorem AI:∀{a b:List Nat},uE a b=true→a=b
 |[],[],_=>rfl
 |[],_::_,h=>by simp[uE]at h
 |_::_,[],h=>by simp[uE]at h
 |x::a,y::b,h=>by
  simp only[uE,Bool.and_eq_true,beq_iff]at h;rw[h.1,AI h.2]
def Jn (E:Env) (t:TypeId):Bool:=E.qR t&&(match E.desc t,YN E 100 t,E.zero t with
 |some d,some ks,some (.agg a)=>isAgg d&&uE (a.toList.map a6) ks
 |_,_,_=>false)
theorem ym {n:Nat}:∀{l:List Nat},mQ n l=true→n∈l
 |[],h=>by simp[mQ]at h
 |m::l,h=>by
  unfold mQ at h;split at h
  ·rename_i e;rw[beq_iff]at e;simp[e]
  ·exact List.mem_cons_of_mem _ (ym h)
def tES (E:Env) (l st:List Nat):Env:={E with qR:=fun t=>mQ t l,still:=fun g=>mQ g st}
def tE (E:Env) (l:List Nat):Env:=tES E l []
theorem WE {l st:List Nat} (hz:∀t z,E.zero t=some z→fj z=true) (hl:l.all (Jn E)=true) (bW:∀g,mQ g st=true→Hc E g):cm (tES E l st) E:=by
 refine⟨fun _ _ h=>h,fun _ _ h=>h,fun _ _ h=>h,fun t z h=>⟨h,hz t z h⟩,fun t a b z xs ys r he hzt hr ha hb=>?_,fun _ _ h=>h,bW⟩;have gL:=List.all_eq_true.1 hl t (ym he);unfold Jn at gL;simp only[Bool.and_eq_true]at gL;obtain⟨h1,h2⟩:=gL;refine⟨h1,?_⟩;have adQ:E.zero t=some z:=hzt;split at h2
 ·rename_i dd ks a0 hd hk Cw;simp only[Bool.and_eq_true]at h2;rw[adQ,Option.some.injEq]at Cw;subst Cw;have Ac:=AI h2.2;have hv:=OJ hr;simp only[Value.cells]at hv;rw[Ac,←ha,←hb]at hv;obtain⟨ds,dk,_,Wn⟩:=OM 100 hk hv;rw[hd]at dk;cases dk;rw[h2.1]at Wn;simpa[WB]using Wn
 ·cases h2
theorem UO {l:List Nat} (hz:∀t z,E.zero t=some z→fj z=true) (hl:l.all (Jn E)=true):cm (tE E l) E:=WE hz hl fun g h=>by simp[mQ]at h
end
def ints (l:List Int):List (List TV):=l.map fun n=>[.s (.int .i64 n)]
inductive Sh where
 |bool
 |int (k:IntKind)
 |str
 |sl (e:List Sh)
mutual
def Fit:Sh→TV→Prop
 | .bool,t=>∃b,t= .s (.bool b)
 | .int k,t=>∃n,k.min≤n∧n≤k.max∧t= .s (.int k n)
 | .str,t=>∃s:ByteArray,s.size≤maxLen∧t= .s (.string s)
 | .sl e,t=>∃es:List (List TV),es.length≤maxLen∧(∀r∈es,Fits e r)∧t= .sl e.length es false
def Fits:List Sh→List TV→Prop
 |[],l=>l=[]
 |s::ss,l=>∃t r,l=t::r∧Fit s t∧Fits ss r
end
theorem Fit.fz {s:Sh} {t:TV} (h:Fit s t):M.fz t=true:=by
 cases s with
 |bool=>simp only[Fit]at h;obtain⟨b,rfl⟩:=h;rfl
 |int k=>simp only[Fit]at h;obtain⟨n,_,_,rfl⟩:=h;rfl
 |str=>simp only[Fit]at h;obtain⟨n,_,rfl⟩:=h;rfl
 |sl e=>simp only[Fit]at h;obtain⟨es,_,_,rfl⟩:=h;rfl
theorem Fits.fz:∀{ss:List Sh} {l:List TV},Fits ss l→∀t∈l,M.fz t=true
 |[],l,h,t,ht=>by simp only[Fits]at h;subst h;cases ht
 |s::ss,l,h,t,ht=>by
  simp only[Fits]at h;obtain⟨t0,r,rfl,h1,h2⟩:=h;rcases List.mem_cons.1 ht with rfl |ht
  ·exact h1.fz
  ·exact Fits.fz h2 t ht
theorem Fits.length:∀{ss:List Sh} {l:List TV},Fits ss l→l.length=ss.length
 |[],l,h=>by simp only[Fits]at h;subst h;rfl
 |s::ss,l,h=>by
  simp only[Fits]at h;obtain⟨t0,r,rfl,h1,h2⟩:=h;simp[Fits.length h2]
theorem Fits.append:∀{ss ON:List Sh} {l l':List TV},Fits ss l→Fits ON l'→Fits (ss++ON) (l++l')
 |[],ON,l,l',h,h'=>by simp only[Fits]at h;subst h;exact h'
 |s::ss,ON,l,l',h,h'=>by
  simp only[Fits]at h;obtain⟨t0,r,rfl,h1,h2⟩:=h;simp only[List.cons_append,Fits];exact⟨_,_,rfl,h1,Fits.append h2 h'⟩
def sW (P:Program) (f:TypeId→List Sh→Bool):List Field→Nat→List Sh→Bool
 |[],_,ss=>ss.isEmpty
 |x::xs,o,ss=>Nat.beq x.offset o&&Nat.ble (P.cellsOf x.type) ss.length&&f x.type (ss.take (P.cellsOf x.type))&&sW P f xs (o+P.cellsOf x.type) (ss.drop (P.cellsOf x.type))
def OO (f:List Sh→Bool) (z:Nat):Nat→List Sh→Bool
 |0,ss=>ss.isEmpty
 |n+1,ss=>Nat.ble z ss.length&&f (ss.take z)&&OO f z n (ss.drop z)
def Q5 (P:Program):Nat→TypeId→List Sh→Bool
 |0,_,_=>false
 |n+1,t,ss=>match P.underlying t with
  |some .bool=>(match ss with|[.bool]=>true|_=>false)
  |some (.int k)=>(match ss with|[.int k']=>decide (k'=k)|_=>false)
  |some .string=>(match ss with|[.str]=>true|_=>false)
  |some (.slice e)=>(match ss with|[.sl es]=>Nat.beq (P.cellsOf e) es.length&&Nat.blt 0 es.length&&Q5 P n e es|_=>false)
  |some (.struct fs)=>Nat.beq (P.cellsOf t) ss.length&&sW P (Q5 P n) fs.toList 0 ss
  |some (.array m e)=>Nat.beq (P.cellsOf t) ss.length&&OO (Q5 P n e) (P.cellsOf e) m ss
  |_=>false
structure AR (W:World) (μ:bn) (h:ab):Prop where
 high:∀b,h.size≤b→h.get b=none
 all:∀b,b<h.size→∃cs,h.get b=some (.cells cs b (b+1) 0)
 gh:∀b m,μ b=some m→b<h.size
 obj:∀b m,μ b=some m→∃cs c e fr,h.get b=some (.cells cs b (b+1) 0)∧W.heap[m.r]? =some (.cells c e fr)∧c.size=m.n∧m.s+cs.length≤m.n∧
  ∀(i:Nat) v,cs[i]? =some v→∃v',c[m.s+i]? =some v'∧au μ v v'
def Grown (h h':ab):Prop:=h.size≤h'.size∧∀b,b<h.size→h'.get b=h.get b
theorem Grown.refl (h:ab):Grown h h:=⟨Nat.le_refl _,fun _ _=>rfl⟩
theorem Grown.trans {a b c:ab} (h:Grown a b) (k:Grown b c):Grown a c:=⟨Nat.le_trans h.1 k.1,fun x hx=>by rw[k.2 x (Nat.lt_of_lt_of_le hx h.1),h.2 x hx]⟩
theorem AR.rd {W:World} {μ:bn} {h:ab} (_:AR W μ h) {b:Nat} {cs:List Value} (hg:h.get b=some (.cells cs b (b+1) 0)):h.rd b=some cs:=
 dD (bM hg hg) (Nat.zero_le _) (by unfold ab.cellsOf;rw[hg])
theorem AR.OP {W:World} {μ aU:bn} {h h':ab} (H:AR W μ h) (H':AR W aU h') (g:Grown h h') {b:Nat} {cs:List Value} (hb:b<h.size) (hr:h.rd b=some cs):h'.rd b=some cs:=by
 obtain⟨Ji,hg⟩:=H.all b hb;have e:=H.rd hg;rw[hr]at e;cases e;exact H'.rd (by rw[g.2 b hb,hg])
theorem AR.wF {W:World} {μ aU:bn} {h h':ab} (H:AR W μ h) (H':AR W aU h') (g:Grown h h') {t:TV} {v:Value} (hv:VR 0 um (· <h.size) h t v):VR 0 um (· <h'.size) h' t v:=
 hv.mono (Nat.le_refl _) (fun _ _ _ hx=>hx) (fun _ _ hx=>hx) (fun _ hb=>Nat.lt_of_lt_of_le hb g.1) fun _ _ hb hr=>H.OP H' g hb hr
def Laid (W:World) (ss:List Sh) (cs:List Value):Prop:=∀μ h,AR W μ h→∃aU h' AJ vs,AR W aU h'∧μ.le aU∧Grown h h'∧Fits ss AJ∧dI 0 um (· <h'.size) h' AJ vs∧ay aU vs cs
theorem Laid.nil (W:World):Laid W [] []:=fun μ h H=>⟨μ,h,[],[],H,μ.le_refl,.refl h,by simp[Fits],.nil,.nil⟩
theorem Laid.append {W:World} {ss ON:List Sh} {cs cs':List Value} (h1:Laid W ss cs) (h2:Laid W ON cs'):Laid W (ss++ON) (cs++cs'):=by
 intro μ h H;obtain⟨fQ,k1,t1,v1,H1,l1,g1,f1,r1,x1⟩:=h1 μ h H;obtain⟨uY,k2,t2,v2,H2,l2,g2,f2,r2,x2⟩:=h2 fQ k1 H1;exact⟨uY,k2,t1++t2,v1++v2,H2,bn.le_trans l1 l2,g1.trans g2,f1.append f2,(r1.qJ fun _ _ hv=>H1.wF H2 g2 hv).append r2,(x1.mono l2).append x2⟩
theorem Laid.scalar {W:World} {s:Sh} {v:Value} (hp:aC v=true) (hf:Fit s (.s v)):Laid W [s] [v]:=fun μ h H=>
 ⟨μ,h,[.s v],[v],H,μ.le_refl,.refl h,by simp only[Fits];exact⟨_,_,rfl,hf,rfl⟩,.cons (.s hp) .nil,.cons (.lit hp) .nil⟩
theorem Laid.rows {W:World} {e:List Sh}:∀{rows:List (List Value)},(∀r∈rows,Laid W e r)→∀μ h,AR W μ h→∃(aU:bn) (h':ab) (es:List (List TV)) (vs:List Value),AR W aU h'∧μ.le aU∧Grown h h'∧es.length=rows.length∧(∀r∈es,Fits e r)∧
 dI 0 um (· <h'.size) h' es.flatten vs∧ay aU vs rows.flatten
 |[],_,μ,h,H=>⟨μ,h,[],[],H,μ.le_refl,.refl h,rfl,by simp,.nil,.nil⟩
 |r::rows,hr,μ,h,H=>by
  obtain⟨fQ,k1,t1,v1,H1,l1,g1,f1,r1,x1⟩:=hr r List.mem_cons_self μ h H;obtain⟨uY,k2,es,v2,H2,l2,g2,n2,f2,r2,x2⟩:=Laid.rows (rows:=rows) (fun r' h'=>hr r' (List.mem_cons_of_mem _ h')) fQ k1 H1;refine⟨uY,k2,t1::es,v1++v2,H2,bn.le_trans l1 l2,g1.trans g2,by simp[n2],?_,?_,?_⟩
  ·intro r' kQ;rcases List.mem_cons.1 kQ with rfl |kQ
   ·exact f1
   ·exact f2 r' kQ
  ·rw[List.flatten_cons];exact(r1.qJ fun _ _ hv=>H1.wF H2 g2 hv).append r2
  ·rw[List.flatten_cons];exact(x1.mono l2).append x2
theorem yp {α:Type} {z:Nat}:∀{es:List (List α)},(∀e∈es,e.length=z)→∀(i j:Nat) e t,es[i]? =some e→e[j]? =some t→es.flatten[i*z+j]? =some t
 |[],_,i,j,e,t,h,_=>by simp at h
 |e0::es,hz,i,j,e,t,h,k=>by
  rw[List.flatten_cons];have h0:=hz e0 List.mem_cons_self;cases i with
  |zero=>
   simp at h;subst h;have:j<e0.length:=(List.getElem?_eq_some_iff.1 k).1;rw[Nat.zero_mul,Nat.zero_add,List.getElem?_append_left this,k]
  |succ i=>
   rw[List.getElem?_append_right (by rw[h0,Nat.succ_mul];omega),h0,show(i+1)*z+j - z=i*z+j by rw[Nat.succ_mul];omega];exact yp (fun e' h'=>hz e' (List.mem_cons_of_mem _ h')) i j e t (by simpa using h) k
theorem EK {α:Type} {z:Nat}:∀{es:List (List α)},(∀e∈es,e.length=z)→es.flatten.length=es.length*z
 |[],_=>by simp
 |e0::es,hz=>by
  rw[List.flatten_cons,List.length_append,EK (fun e' h'=>hz e' (List.mem_cons_of_mem _ h')),hz e0 List.mem_cons_self,List.length_cons,Nat.succ_mul];omega
theorem AR.push {W:World} {μ:bn} {h:ab} (H:AR W μ h) {vs cs:List Value} (hv:ay μ vs cs) {r s:Nat} {c:Array Value} {e:TypeId} {fr:Nat×Nat} (hr:W.heap[r]? =some (.cells c e fr))
 (hle:s+cs.length≤c.size) (hc:∀(i:Nat) v,cs[i]? =some v→c[s+i]? =some v):
 AR W (fun b=>if b=h.size then some ⟨r,s,c.size⟩else μ b) (h.push (.cells vs h.size (h.size+1) 0))∧μ.le (fun b=>if b=h.size then some ⟨r,s,c.size⟩else μ b):=by
 have WG:μ.le (fun b=>if b=h.size then some ⟨r,s,c.size⟩else μ b):=fun b m hb=>by
  have:=H.gh b m hb;show(if b=h.size then _ else _)=_;rw[if_neg om,hb]
 refine⟨⟨fun b hb=>?_,fun b hb=>?_,fun b m hb=>?_,fun b m hb=>?_⟩,WG⟩
 ·rw[ab.size_push]at hb;rw[ab.aq,if_neg om];exact H.high b om
 ·rw[ab.size_push]at hb;rw[ab.aq];by_cases e:b=h.size
  ·rw[if_pos e,e];exact⟨_,rfl⟩
  ·rw[if_neg e];exact H.all b om
 ·rw[ab.size_push];by_cases e:b=h.size
  ·omega
  ·rw[if_neg e]at hb;have:=H.gh b m hb;omega
 ·by_cases e:b=h.size
  ·rw[if_pos e]at hb;cases hb;refine⟨vs,c,_,_,by rw[ab.aq,if_pos e,e],hr,rfl,by rw[hv.length];exact hle,fun i v hi=>?_⟩;obtain⟨v',h1,h2⟩:=hv.get hi;exact⟨v',hc i v' h1,h2.mono WG⟩
  ·rw[if_neg e]at hb;obtain⟨Ji,c0,e0,UP,q1,q2,q3,q4,q5⟩:=H.obj b m hb;exact⟨Ji,c0,e0,UP,by rw[ab.aq,if_neg e];exact q1,q2,q3,q4,fun i v hi=>let⟨v',h1,h2⟩:=q5 i v hi;⟨v',h1,h2.mono WG⟩⟩
theorem AR.dummy {W:World} {μ:bn} {h:ab} (H:AR W μ h):AR W μ (h.push (.cells [] h.size (h.size+1) 0)):=by
 refine⟨fun b hb=>?_,fun b hb=>?_,fun b m hb=>?_,fun b m hb=>?_⟩
 ·rw[ab.size_push]at hb;rw[ab.aq,if_neg om];exact H.high b om
 ·rw[ab.size_push]at hb;rw[ab.aq];by_cases e:b=h.size
  ·rw[if_pos e,e];exact⟨_,rfl⟩
  ·rw[if_neg e];exact H.all b om
 ·rw[ab.size_push];have:=H.gh b m hb;omega
 ·have:=H.gh b m hb;obtain⟨Ji,c0,e0,UP,q1,q2,q3,q4,q5⟩:=H.obj b m hb;exact⟨Ji,c0,e0,UP,by rw[ab.aq,if_neg om];exact q1,q2,q3,q4,q5⟩
theorem rR {h:ab} (o:fi):Grown h (h.push o):=⟨by rw[ab.size_push];omega,fun b hb=>by rw[ab.aq,if_neg om]⟩
theorem Laid.slice {W:World} {e:List Sh} (he:0<e.length) {a:Addr} {len cap:Nat} (IM:len≤cap) (gC:cap≤maxLen) {base:Nat}
 (gL:∀i,i<cap→∃r,W.cells? base (a.add (i*e.length)) e.length=some r∧(i<len→Laid W e r)):Laid W [.sl e] [.slice (some a) len cap]:=by
 intro μ h H;by_cases h0:cap=0
 ·subst h0;have:len=0:=by omega
  subst this;have H':=H.dummy;refine⟨μ,_,[.sl e.length [] false],[.slice (some ⟨h.size,0,some e.length⟩) 0 0],H',μ.le_refl,rR _,?_,.cons ?_ .nil,.cons (.cP fun h=>absurd rfl h) .nil⟩
  ·simp only[Fits,Fit];exact⟨_,_,rfl,⟨[],by simp,by simp,rfl⟩,rfl⟩
  ·refine .sl (b:=h.size) (o:=0) (cs:=[]) (by rw[ab.size_push];omega) ?_ he rfl (Nat.le_refl _) (fun _=>rfl) (by simp) (by simp) (by simp) (by simp);exact H'.rd (by rw[ab.aq,if_pos rfl])
 ·-- the row
  have DI:∀i,i<cap→∀j,j<e.length→∃r,W.cells? base (a.add (i*e.length)) e.length=some r∧r.length=e.length∧W.cell? ((a.add (i*e.length)).add j)=r[j]? :=by
   intro i hi j hj;obtain⟨r,hr,_⟩:=gL i hi;obtain⟨_,h2,h3⟩:=World.cells?_some hr;exact⟨r,hr,h2,h3 j hj⟩
  have adR:∀k j,((a.add k).add j).block=a.block:=by intro k j;unfold Addr.add;split<;>split<;>rfl
  have WD:∀k j,((a.add k).add j).off=a.off+k+j:=by
   intro k j;unfold Addr.add;split<;>split<;>(try simp only[])<;>omega
  have Yz:((a.add (0*e.length)).add 0)=a:=by rw[Nat.zero_mul];rfl
  obtain⟨c,ty,fr,hW,OQ⟩:∃c ty fr,W.heap[a.block]? =some (.cells c ty fr)∧a.spot=none:=by
   obtain⟨r,hr,h2,h3⟩:=DI 0 om 0 he;rw[Yz]at h3;have:r[0]? =some r[0]:=List.getElem?_eq_getElem om;rw[this]at h3;unfold World.cell? at h3;split at h3
   ·rename_i c ty fr hc;split at h3
    ·cases h3
    ·rename_i hs;exact⟨c,ty,fr,hc,by simpa using hs⟩
   ·cases h3
  have WH:∀k j,((a.add k).add j).spot=none:=by
   intro k j;unfold Addr.add;split<;>split<;>simp[OQ]
  have dK:∀i,i<cap→∀r,W.cells? base (a.add (i*e.length)) e.length=some r→r.length=e.length∧∀(j:Nat) v,r[j]? =some v→c[a.off+i*e.length+j]? =some v:=by
   intro i hi r hr;obtain⟨_,h2,h3⟩:=World.cells?_some hr;refine⟨h2,fun j v hv=>?_⟩;have hj:j<e.length:=by rw[←h2];exact(List.getElem?_eq_some_iff.1 hv).1
   have:=h3 j hj;unfold World.cell? at this;rw[adR,hW,WH,WD,hv]at this;simpa using this
  have IJ:a.off+cap*e.length≤c.size:=by
   obtain⟨r,hr,_⟩:=gL (cap - 1) om;obtain⟨h2,h3⟩:=dK _ om r hr;have h4:=h3 (e.length - 1) r[e.length - 1] (List.getElem?_eq_getElem om);have h5:=(Array.getElem?_eq_some_iff.1 h4).1;have:cap*e.length=(cap - 1)*e.length+e.length:=by rw[←Nat.succ_mul];congr 1;omega
   omega
  -- the elements
  let rows:=(List.range len).map fun i=>(W.cells? base (a.add (i*e.length)) e.length).getD []
  have OS:∀i,i<len→rows[i]? =W.cells? base (a.add (i*e.length)) e.length:=by
   intro i hi;obtain⟨r,hr,_⟩:=gL i om;simp only[rows,List.getElem?_map,List.getElem?_range hi,Option.map_some,hr,Option.getD_some]
  have hlen:rows.length=len:=by simp[rows]
  have hz:∀r∈rows,r.length=e.length:=by
   intro r hr;obtain⟨i,hi,rfl⟩:=List.mem_iff_getElem.1 hr;have BP:i<len:=by omega
   obtain⟨r',kQ,_⟩:=gL i om;have:=OS i BP;rw[kQ,List.getElem?_eq_getElem hi]at this;cases this;exact(dK i om _ kQ).1
  have hL:∀r∈rows,Laid W e r:=by
   intro r hr;obtain⟨i,hi,rfl⟩:=List.mem_iff_getElem.1 hr;have BP:i<len:=by omega
   obtain⟨r',kQ,hl⟩:=gL i om;have:=OS i BP;rw[kQ,List.getElem?_eq_getElem hi]at this;cases this;exact hl BP
  obtain⟨fQ,k1,es,vs,H1,l1,g1,n1,f1,r1,x1⟩:=Laid.rows hL μ h H;have ud:=EK hz;have o7:∀(i:Nat) v,rows.flatten[i]? =some v→c[a.off+i]? =some v:=by
   intro i v hv;have hi:=(List.getElem?_eq_some_iff.1 hv).1;rw[ud,hlen]at hi;have hq:i / e.length<len:=(Nat.div_lt_iff_lt_mul he).2 hi;have hm:i % e.length<e.length:=Nat.mod_lt _ he;have hdm:i / e.length*e.length+i % e.length=i:=by rw[Nat.mul_comm];exact Nat.div_add_mod _ _
   obtain⟨r',kQ,_⟩:=gL (i / e.length) om;have h1:=OS _ hq;rw[kQ]at h1;obtain⟨q1,q2⟩:=dK _ om r' kQ;have h2:r'[i % e.length]? =some r'[i % e.length]:=List.getElem?_eq_getElem om;have h3:=yp hz _ _ _ _ h1 h2;rw[hdm,hv]at h3;cases h3;have:=q2 _ _ h2;rw[show a.off+i / e.length*e.length+i % e.length=a.off+i by omega]at this;exact this
  have hle:a.off+rows.flatten.length≤c.size:=by
   rw[ud,hlen];have:=Nat.mul_le_mul_right e.length IM;omega
  obtain⟨H2,l2⟩:=H1.push x1 hW hle o7;have nG:∀r∈es,r.length=e.length:=fun r hr=>(f1 r hr).length;refine⟨_,_,[.sl e.length es false],[.slice (some ⟨k1.size,0,some e.length⟩) len cap],H2,bn.le_trans l1 l2,g1.trans (rR _),?_,.cons ?_ .nil,.cons ?_ .nil⟩
  ·simp only[Fits,Fit];exact⟨_,_,rfl,⟨es,om,f1,rfl⟩,rfl⟩
  ·have Ue:vs.length=len*e.length:=by rw[x1.length,ud,hlen]
   refine .sl (b:=k1.size) (o:=0) (cs:=vs) (by rw[ab.size_push];omega) ?_ he om IM (fun h=>by cases h) om nG (fun r hr t ht=>(f1 r hr).fz t ht) ?_
   ·exact H2.rd (by rw[ab.aq,if_pos rfl])
   ·intro i j e' t v q1 q2 q3;have q4:=yp nG i j e' t q1 q2;rw[Nat.zero_add]at q3;exact H1.wF H2 (rR _) (r1.2 _ _ _ q4 q3)
  ·have:au (fun b=>if b=k1.size then some (⟨a.block,a.off,c.size⟩:MT)else fQ b) (.slice (some ⟨k1.size,0,some e.length⟩) len cap) (.slice (some ⟨a.block,a.off+0,none⟩) len cap):=
    .slice (m:=⟨a.block,a.off,c.size⟩) (by simp) IM IM (fun h=>h) (by simpa using IJ)
   have ha:(⟨a.block,a.off+0,none⟩:Addr)=a:=by
    cases a;simp only[]at OQ;subst OQ;rfl
   rw[ha]at this;exact this
end Go.M
