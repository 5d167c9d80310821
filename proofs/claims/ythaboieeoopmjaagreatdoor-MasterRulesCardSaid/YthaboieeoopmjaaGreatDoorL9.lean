/-
  Part 9 of the library that the proof leans on.
-/
import Derived.Test.YthaboieeoopmjaaGreatDoorL8
import Derived.IntWalk
import Derived.DataReads
namespace Go.M
open Go
section
variable {T E:Env} {X:Cx} {ρ:Gh} {F:Nat→Prop} {o:Ob} {c:Nat} {af:AF} {f:Fr} {h:ae} {p:Oper} {K:OK}
theorem iY.G5 {canon:Option Value} (H:Mem X ρ F o c h) (R:iY c ρ F h o canon K) (hp:aX E af p=canon):eZ E X ρ F o c af h p K:=by
 obtain⟨v,x,h1,h2,h3⟩:=R;exact eZ.pure H (hp.trans h1) h2 h3
theorem SX (L:ct T E) (H:Mem X ρ F o c h) {t:TypeId} {x:TV} {xv:Value} (hw:V3 T t x o c K) (hx:VR c ρ F h x xv)
 (hp:∀d,E.desc t=some d→aX E af p=(match(generalizing:=false) d,xv with
  | .string,.string s=>some (goInt s.size)
  | .array n _,_=>some (goInt n)
  | .slice _,.slice _ n _=>some (goInt n)
  | .map _ _,.map none=>some (goInt 0)
  |_,_=>none))
 (hq:∀k e r,E.desc t=some (.map k e)→xv= .map (some r)→bW E af p=some (.len r)):eZ E X ρ F o c af h p K:=by
 unfold V3 at hw;split at hw
 ·rename_i hd;split at hw
  ·have:=hx.dn.1;subst this;exact eZ.pure H (hp _ (L.desc _ _ hd)) (.s rfl) hw
  ·exact hw.elim
 ·rename_i n e hd;exact eZ.pure H ((hp _ (L.desc _ _ hd)).trans (by cases xv<;>rfl)) (.s rfl) hw
 ·rename_i e hd;have arr:∀{m:Nat} {y:TO},look o m=some y→Ai y=true→VR c ρ F h (.tk m) xv→K (.s (goInt (EV y))) o c .pure→eZ E X ρ F o c af h p K:=by
   intro m y hl hy hx hw;obtain⟨Sm,hO⟩:=H.b9 hl;have:∃a k,xv= .slice a (EV y) k:=by
    rcases hO.tk hy hx with⟨h0,_,rfl |⟨b,o',cs,_,_,_,_,rfl⟩⟩|⟨b,cap,_,_,rfl⟩
    ·rw[h0];exact⟨none,0,rfl⟩
    ·rw[h0];exact⟨_,0,rfl⟩
    ·exact⟨_,_,rfl⟩
   obtain⟨a,k,rfl⟩:=this;exact eZ.pure H (hp _ (L.desc _ _ hd)) (.s rfl) hw
  split at hw
  ·cases hx with
   |bg hb=>exact eZ.pure H (hp _ (L.desc _ _ hd)) (.s rfl) hw
  ·rename_i m;split at hw
   ·rename_i hl;exact arr hl rfl hx hw
   ·rename_i hl;exact arr hl rfl hx hw
   ·exact hw.elim
  ·cases hx with
   |nil h1=>subst h1;exact eZ.pure H (hp _ (L.desc _ _ hd)) (.s rfl) hw
   |sl q1 q2 q3 q4=>subst q4;exact eZ.pure H (hp _ (L.desc _ _ hd)) (.s rfl) hw
  ·rename_i m k;split at hw
   ·rename_i hl;obtain⟨YL,hK⟩:=hw;obtain⟨Sm,hO⟩:=H.b9 hl;cases hx with
    |pv G3 kD ha h0=>
    have:∃a q,xv= .slice a k q:=by
     cases hO with
     |nil hb hz=>
      have Si:k=0:=by simpa using YL
      subst Si;rcases h0 _ hb with rfl |⟨b,o',cs,_,_,_,_,rfl⟩
      ·exact⟨none,0,rfl⟩
      ·exact⟨_,0,rfl⟩
     |arr hb hg hf ht dX jY cO oM gV hc hF=>
      obtain⟨cap,_,rfl⟩:=ha _ _ _ hb;exact⟨_,_,rfl⟩
    obtain⟨a,q,rfl⟩:=this;exact eZ.pure H (hp _ (L.desc _ _ hd)) (.s rfl) hK
   ·exact hw.elim
  ·exact hw.elim
 ·rename_i k e hd;split at hw
  ·have:=hx.dn.1;subst this;exact eZ.pure H (hp _ (L.desc _ _ hd)) (.s rfl) hw
  ·rename_i n;split at hw
   ·rename_i kn es hl;obtain⟨Sm,hO⟩:=H.b9 hl;cases hO with
    |map hb hg hlen hc bN=>
     rename_i b clock ev;cases hx with
     |mp cp=>
      rw[hb]at cp;cases cp;have C6:eQ h b=some (ev,clock):=by unfold eQ;rw[hg]
      have hE:uF c ρ F h kn es ev:=⟨hlen,hc⟩;refine ja.G5 (q:=.len b) (ja.same H (by simp[RQ.run,C6];rfl) (.s rfl) ?_ (.lM (.refl _) rfl hl (.inl hb) ⟨_,C6,hE.refl⟩)) (hp _ (L.desc _ _ hd)) (hq _ _ _ (L.desc _ _ hd) rfl);rw[←hlen];exact hw
   ·rename_i kn es hl;obtain⟨Sm,hO⟩:=H.b9 hl;cases hO with
    |fC hb hg bV hc bN=>
     rename_i Sq b clock ev;cases hx with
     |mp cp=>
      rw[hb]at cp;cases cp;have C6:eQ h b=some (ev,clock):=by unfold eQ;rw[hg]
      have hE:iC c ρ F h X.base kn Sq es ev:=hc;have hlen:es.length=ev.length:=by
       have key:∀{es:List (Value×TV)} {ev:List MapEntry} {S:Ft},iC c ρ F h X.base kn S es ev→es.length=ev.length:=by
        intro es ev S hE
        induction hE with
        |nil=>rfl
        |cons _ _ _ _ _ ih=>simp[ih]
       exact key hE
      refine ja.G5 (q:=.len b) (ja.same H (by simp[RQ.run,C6];rfl) (.s rfl) ?_ (.lM (.refl _) rfl hl (.inl hb) ⟨_,C6,hE.refl fun e he t ht=>.inr (bV e he t ht)⟩)) (hp _ (L.desc _ _ hd)) (hq _ _ _ (L.desc _ _ hd) rfl);rw[←hlen];exact hw
   ·exact hw.elim
  ·exact hw.elim
 ·exact hw.elim
theorem iP (L:ct T E) (N:m3 T F h) (S:dE c ρ F h f af) {x:Operand} {l:List Operand} (kG:l.all (rT T)=true) (hm:x∈l):∃v,ev E af x=some v∧VR c ρ F h (mz T f x) v:=qh L N S (List.all_eq_true.1 kG x hm)
theorem evO (L:ct T E) (N:m3 T F h) (S:dE c ρ F h f af) {x:Option Operand} {l:List Operand} (kG:l.all (rT T)=true) (hm:∀y,x=some y→y∈l):∃v,oT E af x=some v∧SJ c ρ F h (Sw T f x) v:=by
 cases x with
 |none=>exact⟨none,rfl,.inl ⟨rfl,rfl⟩⟩
 |some y=>
  obtain⟨v,h1,h2⟩:=qh (E:=E) L N S (List.all_eq_true.1 kG y (hm y rfl));exact⟨some v,by simp[oT,h1],.inr ⟨_,_,rfl,rfl,h2⟩⟩
theorem E8 (L:ct T E) (H:Mem X ρ F o c h) {b:Builtin} {td:Array Operand} {argTypes:Array TypeId} {args:List TV} {vs:List Value} {dst:Option Tmp} {ty:TypeId} {pos:String} {after:Array Edge} {guard:Option (Nat×Bool)}
 (hw:xN T b argTypes.toList args o c K) (hr:dF c ρ F h args vs) (he:GX E af td.toList=some vs):eZ E X ρ F o c af h ⟨dst,.call ⟨.builtin b,td,argTypes⟩,ty,pos,after,guard⟩ K:=by
 have hp:aX E af ⟨dst,.call ⟨.builtin b,td,argTypes⟩,ty,pos,after,guard⟩=p5 E b argTypes.toList vs:=by simp only[aX,he,Option.bind_some]
 have eF:br E af ⟨dst,.call ⟨.builtin b,td,argTypes⟩,ty,pos,after,guard⟩=none:=rfl;have YM:dj E X.base af ⟨dst,.call ⟨.builtin b,td,argTypes⟩,ty,pos,after,guard⟩ h=(sx E X.base h b argTypes.toList vs).bind fun r=>some (.val r.1,r.2):=by simp only[dj,he,Option.bind_some]
 have fN:b≠ .len→bW E af ⟨dst,.call ⟨.builtin b,td,argTypes⟩,ty,pos,after,guard⟩=none:=fun hb=>by
  cases b<;>first|rfl |exact absurd rfl hb
 unfold xN at hw;split at hw
 ·rename_i t ts x xs Ap;obtain⟨xv,m,rfl,h1,h2⟩:=hr.aL;refine SX L H hw h1 (fun d hd=>?_) (fun k e r hd hx=>?_)
  ·rw[hp,Ap];simp only[p5,hd,Option.bind_some]
   try rfl
  ·subst hx;simp only[bW,Ap,he,Option.bind_some,hd]
 ·rename_i st xt fl l Ap;obtain⟨sv,m,rfl,h1,h2⟩:=hr.aL;obtain⟨xv,m',rfl,h3,h4⟩:=h2.aL;obtain rfl:=h4.bC;have hxv:=h3.dn.1;subst hxv;refine E7 L H hw h1 (by rw[hp,Ap];rfl) (fN (by simp)) eF fun v h' hh=>?_;rw[YM,Ap];show(match cM E X.base h st xt sv (.int .i64 l)with|some r=>some r|none=>jF E h st xt sv (.int .i64 l)).bind _=_;have vx:cM E X.base h st xt sv (.int .i64 l)=none:=by
   unfold cM;cases E.desc st with
   |none=>rfl
   |some sd=>cases E.desc xt with
    |none=>rfl
    |some xd=>
     cases sd<;>try rfl
     rename_i elem;simp only[Option.bind_some];cases E.size elem<;>try rfl
     cases E.bytes elem<;>try rfl
     cases E.zero elem<;>rfl
  rw[vx,hh];rfl
 ·rename_i st xt s x _ Ap;obtain⟨sv,m,rfl,h1,h2⟩:=hr.aL;obtain⟨xv,m',rfl,h3,h4⟩:=h2.aL;obtain rfl:=h4.bC;refine Il L H hw h1 h3 (by rw[hp,Ap];rfl) (fN (by simp)) eF fun v h' hh=>?_;rw[YM,Ap];show(match cM E X.base h st xt sv xv with|some r=>some r|none=>jF E h st xt sv xv).bind _=_;rw[hh];rfl
 ·rename_i ts k x k' y;obtain⟨sv,m,rfl,h1,h2⟩:=hr.aL;obtain⟨xv,m',rfl,h3,h4⟩:=h2.aL;obtain rfl:=h4.bC;rw[h1.dn.1,h3.dn.1]at hp;exact eZ.pure H (x:=.int k (if y>x then y else x)) (by rw[hp];rfl) (.s rfl) hw
 ·rename_i ts k x k' y;obtain⟨sv,m,rfl,h1,h2⟩:=hr.aL;obtain⟨xv,m',rfl,h3,h4⟩:=h2.aL;obtain rfl:=h4.bC;rw[h1.dn.1,h3.dn.1]at hp;exact eZ.pure H (x:=.int k (if y<x then y else x)) (by rw[hp];rfl) (.s rfl) hw
 ·rename_i t ts fl Ap;obtain⟨sv,m,rfl,h1,h2⟩:=hr.aL;obtain rfl:=h2.bC;split at hw
  ·rename_i e hd;have:sv= .slice none 0 0:=by
    cases h1 with
    |nil=>rfl
    |sl q1 q2 q3=>omega
   subst this;refine eZ.pure H (x:=goInt 0) ?_ (.s rfl) hw;rw[hp,Ap];simp only[p5,L.desc _ _ hd,Option.bind_some]
  ·exact hw.elim
 ·rename_i t ts m k Ap;obtain⟨mv,m1,rfl,h1,h2⟩:=hr.aL;obtain⟨kv,m',rfl,h3,h4⟩:=h2.aL;obtain rfl:=h4.bC;refine Ie L H hw h1 h3 (by rw[hp,Ap];rfl) (fN (by simp)) eF ?_;rw[YM,Ap];rfl
 ·rename_i t ts m i args Ap;obtain⟨xv,m1,rfl,h1,h2⟩:=hr.aL;split at hw
  ·rename_i elem hd;split at hw
   ·rename_i zv z es hz hl;split at hw
    ·rename_i zs jr;split at hw
     ·rename_i hc;refine Ig L H hd hz hl jr hc hw h1 (by rw[hp,Ap];rfl) (fN (by simp)) eF ?_;rw[YM,Ap];rfl
     ·exact hw.elim
    ·exact hw.elim
   ·exact hw.elim
  ·exact hw.elim
 ·rename_i t ts n args Ap;obtain⟨mv,m1,rfl,h1,h2⟩:=hr.aL;split at hw
  ·rename_i d kn es hd hl;refine A7 H hl (.inl ⟨_,rfl⟩) hw h1 (by rw[hp,Ap];rfl) (fN (by simp)) eF (by rw[L.desc _ _ hd];rfl) ?_ (t:=t);rw[YM,Ap];rfl
  ·rename_i d kn es op hd hl;refine A7 H hl (.inr ⟨_,_,rfl⟩) hw h1 (by rw[hp,Ap];rfl) (fN (by simp)) eF (by rw[L.desc _ _ hd];rfl) ?_ (t:=t);rw[YM,Ap];rfl
  ·exact hw.elim
 ·exact hw.elim
theorem E9 (s:ByteArray):(Ew s).length=s.size:=by simp[Ew]
theorem OQ {c:Nat} {ρ:Gh} {F:Nat→Prop} {h:ae}:∀{ns:List Int} {vs:List Value},dF c ρ F h (Ey ns).flatten vs→vs=ns.map (Value.int .u8)
 |[],vs,H=>H.bC
 |n::ns,vs,H=>by
  obtain⟨v,nF,rfl,h1,h2⟩:=H.aL;rw[h1.dn.1,OQ h2];rfl
theorem J1:∀ns:List Int,Nt (ns.map (Value.int .u8))=some ns
 |[]=>rfl
 |n::ns=>by simp only[List.map_cons,Nt,J1 ns,Option.bind_some]
theorem Fa (L:ct T E) (H:Mem X ρ F o c h) {s d:TypeId} {x:TV} {xv:Value} (hw:xQ T s d x o c K) (hx:VR c ρ F h x xv)
 (hp:aX E af p=qO E s d xv) (hq:bW E af p=none) (eF:br E af p=none) (he:dj E X.base af p h=(ry E X.base h s d xv).bind fun r=>some (.val r.1,r.2)):eZ E X ρ F o c af h p K:=by
 unfold xQ at hw;split at hw
 ·rename_i v;have:=hx.dn.1;subst this;split at hw
  ·rename_i str e hd;split at hw
   ·rename_i sd ed hs hed;split at hw
    ·rename_i hu;have Rv:aX E af p=none:=by rw[hp];simp[qO,L.desc _ _ hs,L.desc _ _ hd]
     have E1:ER c ρ F h 1 (Ew str) (fm str):=by
      refine⟨by simp[Ew,fm],fun e he=>?_,fun e he t ht=>?_,fun i j e t v q1 q2 q3=>?_⟩
      ·simp only[Ew,List.mem_map]at he;obtain⟨b,_,rfl⟩:=he;rfl
      ·simp only[Ew,List.mem_map]at he;obtain⟨b,_,rfl⟩:=he;simp at ht;subst ht;rfl
      ·simp only[Ew,List.getElem?_map,Option.map_eq_some_iff]at q1;obtain⟨b,q1,rfl⟩:=q1;cases j with
       |succ j=>simp at q2
       |zero=>
        simp at q2;subst q2;simp only[fm,List.getElem?_map,Nat.mul_one,Nat.add_zero,q1,Option.map_some,Option.some.injEq]at q3;subst q3;exact .s rfl
     obtain⟨M2,k2⟩:=H.xS E1 om;refine eZ.dr (x:=.slice (some ⟨h.size,0,some 1⟩) str.size (str.size+1)) (h':=h.push (.cells (fm str) h.size h.size 0)) H Rv hq eF (by rw[he];simp[ry,L.desc _ _ hs,L.desc _ _ hd,L.desc _ _ hed,hu,bI,fresh]) ⟨M2,k2,by show h.size≤h.size+1;omega,fun _ hb=>hb,fun b cs hb hr=>(fI H.wf.le _ (H.Ll hb)).trans hr⟩ ?_ (fun m y hl hm=>?_) hw
     ·refine .tk om rfl (fun b z len hx=>?_) (fun z hx=>?_)
      ·rw[aM]at hx;cases hx;exact⟨str.size+1,by rw[E9];omega,by rw[E9]⟩
      ·rw[aM]at hx;cases hx
     ·have hmc:=H.lt hl;refine⟨⟨y,by rw[aQ,if_neg (by simp only;omega)];exact hl⟩,by rw[bG _ _ om],fun b hb=>?_⟩;have:=H.yd hl hb;exact⟨by rw[ae.au,if_neg om],fun cs hr=>by rw[fI H.wf.le _ this];exact hr⟩
    ·exact hw.elim
   ·exact hw.elim
  ·exact iY.G5 H (s6 hw fun x hx=>H8 L hx) hp
 ·split at hw
  ·rename_i z es pj;split at hw
   ·rename_i e hd hs;split at hw
    ·rename_i ed hed;split at hw
     ·rename_i hc;simp only[Bool.and_eq_true,Bool.or_eq_true,beq_iff]at hc;obtain⟨hu,hz⟩:=hc;obtain⟨ns,rfl,hK⟩:=hw;obtain⟨hlen,_,_,kY⟩:=pq H pj (n:=1) (hz.imp id fun h=>⟨h,rfl⟩) (by simp) hx;obtain⟨a,cap,rfl⟩:∃a cap,xv= .slice a (Ey ns).length cap:=by
       unfold mN at hlen;split at hlen
       ·cases hlen;exact⟨_,_,rfl⟩
       ·exfalso;unfold ZG at pj;split at pj
        ·cases hx with|tk _ h1=>simp[Lh]at h1
        ·cases hx
        ·cases pj
       ·cases hlen
      have Rv:aX E af p=none:=by rw[hp];simp[qO,L.desc _ _ hs,L.desc _ _ hd]
      have YN:ry E X.base h s d (.slice a (Ey ns).length cap)=some (.string (strOf ns),h):=by
       simp only[ry,L.desc _ _ hs,L.desc _ _ hd,L.desc _ _ hed,hu,Option.bind_some,bI,bT,beq_iff];split
       ·rename_i h0;have:ns=[]:=by simpa[Ey]using h0
        subst this;rfl
       ·rename_i h0;rcases kY with h1|⟨new,h1,_,_,_,hV⟩
        ·rw[h1]at h0;simp at h0
        ·have e2:=OQ (ns:=ns) (vs:=new) (by simpa[cP]using hV);rw[h1,e2];simp only[Option.bind_some,J1]
      exact eZ.dr H Rv hq eF (by rw[he,YN];rfl) (.refl H) (.s rfl) (.refl _) hK
     ·exact hw.elim
    ·exact hw.elim
   ·exact hw.elim
  ·exact hw.elim
theorem A8 {base n len:Nat} {es:List (List TV)} (hlen:es.length=len):∀{ps:List (Nat×TV)} {pv:List (Nat×Value)} {op:List (Nat×List TV)} {cs:List Value},
 (ps.all fun p=>okV p.2&&Nat.beq (aE p.2).length n&&Nat.blt p.1 len)=true→EQ c ρ F h base n [] es op cs→SG c ρ F h ps pv→
 ∃cv,j7 (fun i=>some (i*n,n)) cs pv=some cv∧EQ c ρ F h base n [] es (V4 ps op) cv
 |[],[],op,cs,_,hQ,_=>⟨cs,rfl,hQ⟩
 |[],_::_,_,_,_,_,h2=>h2.elim
 |_::_,[],_,_,_,_,h2=>h2.elim
 |q::ps,(k,x)::pv,op,cs,ha,hQ,h2=>by
  obtain⟨e0,hvx,h2⟩:=h2;obtain rfl:q.1=k:=e0;simp only[List.all_cons,Bool.and_eq_true,beq_iff,a7]at ha;obtain⟨⟨⟨JW,hqn⟩,hql⟩,ha⟩:=ha;have s7:=iZ hvx JW;obtain⟨eF,jr⟩:=sX hQ.each hQ.ju;have OS:q.1<(cP es op).length:=by omega
  obtain⟨row,gj⟩:∃e,(cP es op)[q.1]? =some e:=⟨_,List.getElem?_eq_getElem OS⟩;have YO:=jr row (List.mem_of_getElem? gj);have hC:=hQ.cell;rw[←yf gj]at hC;obtain⟨S1,S2,S3,v1,v2,v3,e0,e1,a1,a2,a3⟩:=kU jr OS hC;have e2:v1.length=q.1*n:=by
   have h1:=a1.len;have:=(e7 jr gj).2;rw[Nat.add_mul]at this;rw[←h1,List.length_take];omega
  have e3:v2.length=n:=by rw[←a2.len];exact YO
  have e4:dz v2 0 x.cells.toList=some x.cells.toList:=by
   obtain⟨r,hr⟩:=lZ (n:=0) (l:=v2) (xs:=x.cells.toList) (by rw[←s7.1];omega);rw[hr,ku hr];have:v2.length≤x.cells.toList.length:=by rw[←s7.1];omega
   rw[List.take_zero,List.drop_zero,List.nil_append,List.drop_eq_nil_of_le this,List.append_nil]
  have e5:=E4 (v1:=v1) (v3:=v3) e4;rw[Nat.add_zero,e2,←e1]at e5;simp only[List.append_eq_nil_iff,List.nil_eq]at e0;obtain⟨rfl,rfl,rfl⟩:=e0;have hJ:=qf jr OS a1 (cU.kS (base:=base) s7) a3;have hQ1:EQ c ρ F h base n [] es ((q.1,aE q.2)::op) (v1++(x.cells.toList++v3)):=by
   refine⟨?_,hQ.each,hQ.cl,fun p hp=>?_,hJ⟩
   ·have:=(dv e5).2.1;rw[this];exact hQ.len
   ·rcases List.mem_cons.1 hp with rfl |hp
    ·exact⟨om,hqn⟩
    ·exact hQ.ju p hp
  obtain⟨cv,g1,g2⟩:=A8 hlen ha hQ1 h2;refine⟨cv,?_,g2⟩;have:x.cells.size=n:=by have:=s7.1;simp only[Array.length_toList]at this;omega
  simp[j7,this,e5,bI,g1]
theorem OT (L:ct T E) (NX:HY E X) (H:Mem X ρ F o c h) (S:dE c ρ F h f af) (hw:UR T (VC E) p.op f o c K):eZ E X ρ F o c af h p K:=by
 obtain⟨dst,op,ty,pos,after,guard⟩:=p;have N:m3 T F h:=(NX.now H).sub L;simp only at hw;unfold UR at hw;split at hw
 ·exact hw.elim
 ·rename_i kG;cases op with
  |move x=>
   obtain⟨v,h1,h2⟩:=iP (E:=E) L N S kG (x:=x) (by simp[Op.operands]);obtain⟨hK,_⟩:=eu hw;exact eZ.pure H (x:=v) h1 h2 hK
  |assign x=>
   obtain⟨v,h1,h2⟩:=iP (E:=E) L N S kG (x:=x) (by simp[Op.operands]);obtain⟨hK,_⟩:=eu hw;exact eZ.pure H (x:=v) h1 h2 hK
  |pick q a b=>
   obtain⟨qv,h1,h2⟩:=iP (E:=E) L N S kG (x:=q) (by simp[Op.operands]);obtain⟨av,h3,h4⟩:=iP (E:=E) L N S kG (x:=a) (by simp[Op.operands]);obtain⟨bv,h5,h6⟩:=iP (E:=E) L N S kG (x:=b) (by simp[Op.operands]);simp only at hw;split at hw
   ·rename_i qb he;rw[he]at h2;have:=h2.dn.1;subst this;split at hw
    ·obtain⟨hK,_⟩:=eu hw;exact eZ.pure H (x:=av) (by simp[aX,h1,h3,Nq]) h4 hK
    ·obtain⟨hK,_⟩:=eu hw;exact eZ.pure H (x:=bv) (by simp[aX,h1,h5,Nq]) h6 hK
   ·exact hw.elim
  |alloc t=>
   simp only at hw;split at hw
   ·rename_i z hz;split at hw
    ·rename_i zs jr;obtain⟨jY,oA⟩:=L.zero _ _ hz;exact uH H (fT oA jr) rfl rfl (by simp[br,jY]) hw
    ·exact hw.elim
   ·exact hw.elim
  |box t x=>
   obtain⟨v,h1,h2⟩:=iP (E:=E) L N S kG (x:=x) (by simp[Op.operands]);simp only at hw;obtain⟨hK,bD⟩:=eu hw;have eF:br E af ⟨dst,.box t x,ty,pos,after,guard⟩=some (.cells v.cells.toList,.ptr):=by simp[br,h1]
   split at hK
   ·exact hK.elim
   ·exact hK.elim
   ·exact hK.elim
   ·exact hK.elim
   ·rename_i cs he;have s7:=iZ h2 (by rw[he];rfl);rw[he]at s7;exact uH H s7 rfl rfl eF hK
   ·rename_i n1 n2 n4 n5 n3;have gl:okV (mz T f x)=true:=by
     cases he:mz T f x with
     |j=>exact absurd he n1
     |c4 cs=>exact absurd he (n2 cs)
     |sv a b=>exact absurd he (n4 a b)
     |pv a b=>exact absurd he (n5 a b)
     |_=>rfl
    have s7:=iZ h2 gl;have YN:aE (mz T f x)=[mz T f x]:=by
     cases he:mz T f x with
     |agg cs=>exact absurd he (n3 cs)
     |_=>rfl
    rw[YN]at s7;exact uH H s7 rfl rfl eF hK
  |build t ps=>
   obtain⟨pv,h1,h2⟩:=nV (E:=E) L N S (l:=ps.toList) (by simpa[Op.operands]using kG);exact iY.G5 H (Lx L hw h2) (by simp[aX,h1])
  |buildSlice t len ps=>
   obtain⟨pv,h1,h2⟩:=nV (E:=E) L N S (l:=ps.toList) (by simpa[Op.operands]using kG);simp only at hw;unfold vz at hw;split at hw
   ·rename_i elem hd;split at hw
    ·rename_i n z hn hz;obtain⟨jY,oA⟩:=L.zero _ _ hz;split at hw
     ·rename_i zs hc jr;simp only[Bool.and_eq_true,beq_iff,aT,a7]at hc;obtain⟨⟨lT,rD⟩,Ro⟩:=hc;split at hw
      ·rename_i es Rw NC;have rF:=fT (c:=c) (ρ:=ρ) (F:=F) (h:=h) oA jr;have Lo:zs.length=n:=by have:=rF.1;simp only[Array.length_toList]at this;omega
       obtain⟨F',cv,S',b1,b2,b3⟩:=A6 H NC (ER.replicate rF Lo Rw len) h2;have UZ:es.length=len:=by rw[b3];simp
       refine JU H S' (cap:=len) b2 Ro om rfl rfl ?_ hw;simp only[br,L.desc _ _ hd,Option.bind_some,h1,L.size _ _ hn,jY,rD,aT.2 lT,bI];rw[UZ];simp[b1]
      ·rename_i Rw NC;split at hw
       ·rename_i gJ;have rF:=fT (c:=c) (ρ:=ρ) (F:=F) (h:=h) oA jr;have Lo:zs.length=n:=by have:=rF.1;simp only[Array.length_toList]at this;omega
        have hE:=ER.replicate rF Lo Rw len
        have hQ0:EQ c ρ F h X.base n [] (List.replicate len zs) [] (aZ z.cells.toList len):=
         ⟨hE.len,hE.each,fun e he t ht=>by
          have:=hE.fz e he t ht;unfold mX;split<;>first|rfl |exact this,by simp,cU.kS (hY hE.len hE.each hE.cell)⟩
        obtain⟨cv,g1,hQ⟩:=A8 (by simp) gJ hQ0 h2;obtain⟨M1,k1⟩:=H.HR hQ Ro;refine eZ.alloc H (.refl H) (md:=.cells cv) (hd:=.slice n len len) rfl rfl ?_ M1 k1 (.tk om rfl (fun b z' len' hx=>?_) (fun z' hx=>?_)) hw
        ·simp only[br,L.desc _ _ hd,Option.bind_some,h1,L.size _ _ hn,jY,rD,aT.2 lT,bI];simp[g1]
        ·rw[aM]at hx;cases hx;exact⟨len,by simp,by simp[su.val]⟩
        ·rw[aM]at hx;cases hx
       ·exact hw.elim
      ·exact hw.elim
     ·exact hw.elim
    ·exact hw.elim
   ·exact hw.elim
  |load t a=>
   obtain⟨av,h1,h2⟩:=iP (E:=E) L N S kG (x:=a) (by simp[Op.operands]);obtain⟨q,h3,h4⟩:=Oy L H hw h2;exact h4.G5 rfl (by simp only[bW,h1,Option.bind_some];exact h3)
  |store t a v=>
   obtain⟨av,h1,h2⟩:=iP (E:=E) L N S kG (x:=a) (by simp[Op.operands]);obtain⟨vv,h3,h4⟩:=iP (E:=E) L N S kG (x:=v) (by simp[Op.operands]);exact LC L H hw h2 h4 rfl rfl rfl (by simp only[dj,h1,h3,Option.bind_some];rfl)
  |nilCheck x=>
   obtain⟨v,h1,h2⟩:=iP (E:=E) L N S kG (x:=x) (by simp[Op.operands]);simp only at hw;split at hw
   ·rename_i n q he;rw[he]at h2;cases h2 with
    |ptr hb=>exact eZ.pure H (by simp[aX,h1,mO]) (.ptr hb) hw
   ·rename_i e q he;rw[he]at h2;cases h2 with
    |ep a1 a2 a3 a4 a5=>exact eZ.pure H (by simp[aX,h1,mO]) (.ep a1 a2 a3 a4 a5) hw
   ·rename_i g a b he;rw[he]at h2;cases h2 with
    |cW a1 a2 a3 a4=>exact eZ.pure H (by simp[aX,h1,mO]) (.cW a1 a2 a3 a4) hw
   ·exact hw.elim
  |binOp bop t x y t2=>
   obtain⟨av,h1,h2⟩:=iP (E:=E) L N S kG (x:=x) (by simp[Op.operands]);obtain⟨bv,h3,h4⟩:=iP (E:=E) L N S kG (x:=y) (by simp[Op.operands]);exact iY.G5 H (SH L H hw h2 h4) (by simp[aX,h1,h3])
  |unOp uop t x=>
   obtain⟨v,h1,h2⟩:=iP (E:=E) L N S kG (x:=x) (by simp[Op.operands]);simp only at hw;split at hw
   ·rename_i w he;split at hw
    ·rename_i hs;rw[he]at h2;have:=h2.dn.1;subst this;exact iY.G5 H (s6 hw fun x hx=>hx) (by simp[aX,h1,hs,bI])
    ·exact hw.elim
   ·exact hw.elim
  |convert s d x=>
   obtain⟨v,h1,h2⟩:=iP (E:=E) L N S kG (x:=x) (by simp[Op.operands]);exact Fa L H hw h2 (by simp[aX,h1]) rfl rfl (by simp[dj,h1])
  |makeInterface t x=>
   obtain⟨v,h1,h2⟩:=iP (E:=E) L N S kG (x:=x) (by simp[Op.operands]);simp only at hw;split at hw
   ·exact hw.elim
   ·exact hw.elim
   ·rename_i d hd n1;split at hw
    ·exact hw.elim
    ·refine eZ.pure H (x:=.iface t v) ?_ (.nz h2) hw;simp only[aX,L.desc _ _ n1,Option.bind_some,h1]
  |makeFunc fn first captured=>
   simp only at hw;split at hw
   ·rename_i g;have he:(first.toList.all (rT T)=true)∧(captured.toList.all (rT T)=true):=by
     simpa[Op.operands]using kG
    obtain⟨a,h1,h2⟩:=ph (E:=E) L N S he.1;obtain⟨b,h3,h4⟩:=ph (E:=E) L N S he.2;exact eZ.pure H (x:=.func (.func g) a.toArray b.toArray) (by simp[aX,h1,h3]) (.cW (by simpa using h2.1) (fun i t v q1 q2=>h2.2 i t v q1 (by simpa using q2)) (by simpa using h4.1) (fun i t v q1 q2=>h4.2 i t v q1 (by simpa using q2))) hw
   ·exact hw.elim
  |makeMap t r=>
   cases r with
   |some r=>exact hw.elim
   |none=>
    simp only at hw;split at hw
    ·split at hw
     ·split at hw
      ·exact SO H _ rfl rfl rfl hw
      ·exact hw.elim
     ·exact hw.elim
    ·exact hw.elim
  |makeSlice t l k=>
   obtain⟨lv,h1,h2⟩:=iP (E:=E) L N S kG (x:=l) (by simp[Op.operands]);obtain⟨kv,h3,h4⟩:=iP (E:=E) L N S kG (x:=k) (by simp[Op.operands]);simp only at hw;unfold xO at hw;split at hw
   ·rename_i elem li ki hd hli hki;split at hw
    ·rename_i n bytes z hn G2 hz;obtain⟨jY,oA⟩:=L.zero _ _ hz;split at hw
     ·rename_i zs hc jr;simp only[Bool.and_eq_true,beq_iff,a7]at hc;obtain⟨hc,Ik⟩:=hc;split at hw
      ·rename_i Rw;obtain⟨⟨b1,b2,b30⟩,hK⟩:=hw;have b3:(ki+1)*((bytes:Int)+1)≤1099511627776:=by
        have h1:(ki.toNat+1)*(bytes+1)≤1099511627776:=size_le om Ik;have h2:ki=(ki.toNat:Int):=by omega
        rw[h2];have h3:=Int.ofNat_le.2 h1;rw[Int.natCast_mul]at h3;exact h3
       have rF:=fT (c:=c) (ρ:=ρ) (F:=F) (h:=h) oA jr;have Lo:zs.length=n:=by have:=rF.1;simp only[Array.length_toList]at this;omega
       have hE:=ER.replicate rF Lo Rw li.toNat
       refine JU H (.refl H) (cap:=bif Nat.beq li.toNat ki.toNat then li.toNat else li.toNat+1) hE hc.2 (by simp only[List.length_replicate,bT];split<;>omega) rfl rfl ?_ hK;simp only[br,L.desc _ _ hd,Option.bind_some,h1,h3,m6 hli h2,m6 hki h4,L.size _ _ hn,L.bytes _ _ G2,jY,hc.1,bI];simp[b1,b2,b3]
      ·exact hw.elim
     ·exact hw.elim
    ·exact hw.elim
   ·exact hw.elim
  |slice t x lo hi mx=>
   obtain⟨xv,h1,h2⟩:=iP (E:=E) L N S kG (x:=x) (by simp[Op.operands]);obtain⟨x8,h3,h4⟩:=evO (E:=E) L N S kG (x:=lo) (fun y e=>by subst e;simp[Op.operands]);obtain⟨hiv,h5,h6⟩:=evO (E:=E) L N S kG (x:=hi) (fun y e=>by subst e;simp[Op.operands]);obtain⟨Rz,h7,h8⟩:=evO (E:=E) L N S kG (x:=mx) (fun y e=>by subst e;simp[Op.operands]);exact(Lu L H hw h2 h4 h6 h8).G5 H (by simp[aX,h1,h3,h5,h7])
  |fieldAddr s x fd=>
   obtain⟨v,h1,h2⟩:=iP (E:=E) L N S kG (x:=x) (by simp[Op.operands]);exact iY.G5 H (Aj L H hw h2) (by simp only[aX,h1,Option.bind_some];rfl)
  |field t x fd=>
   obtain⟨v,h1,h2⟩:=iP (E:=E) L N S kG (x:=x) (by simp[Op.operands]);exact iY.G5 H (Ls L hw h2) (by simp only[aX,h1,Option.bind_some];rfl)
  |indexAddr t x i=>
   obtain⟨v,h1,h2⟩:=iP (E:=E) L N S kG (x:=x) (by simp[Op.operands]);obtain⟨iv,h3,h4⟩:=iP (E:=E) L N S kG (x:=i) (by simp[Op.operands]);exact iY.G5 H (Ak L H hw h2 h4) (by simp[aX,h1,h3])
  |index t x i=>
   obtain⟨v,h1,h2⟩:=iP (E:=E) L N S kG (x:=x) (by simp[Op.operands]);obtain⟨iv,h3,h4⟩:=iP (E:=E) L N S kG (x:=i) (by simp[Op.operands]);exact iY.G5 H (Lt L hw h2 h4) (by simp[aX,h1,h3])
  |lookup t x i ok=>
   obtain⟨v,h1,h2⟩:=iP (E:=E) L N S kG (x:=x) (by simp[Op.operands]);obtain⟨iv,h3,h4⟩:=iP (E:=E) L N S kG (x:=i) (by simp[Op.operands]);rcases Ia L H hw h2 h4 with⟨rfl,R⟩|⟨r,rfl,q,hq,R⟩
   ·exact iY.G5 H R (by simp only[aX,h1,h3,Option.bind_some];cases E.desc t with|none=>rfl |some d=>cases d<;>rfl)
   ·refine R.G5 ?_ (by simp only[bW,h1,h3,Option.bind_some];exact hq);simp only[aX,h1,h3,Option.bind_some];cases E.desc t with
    |none=>rfl
    |some d=>cases d<;>rfl
  |mapUpdate t m k v=>
   obtain⟨mv,h1,h2⟩:=iP (E:=E) L N S kG (x:=m) (by simp[Op.operands]);obtain⟨kv,h3,h4⟩:=iP (E:=E) L N S kG (x:=k) (by simp[Op.operands]);obtain⟨vv,h5,h6⟩:=iP (E:=E) L N S kG (x:=v) (by simp[Op.operands]);exact Ao L H hw h2 h4 h6 rfl rfl rfl (by simp only[dj,h1,h3,h5,Option.bind_some];rfl)
  |extract t i=>
   obtain⟨v,h1,h2⟩:=iP (E:=E) L N S kG (x:=t) (by simp[Op.operands]);simp only at hw;split at hw
   ·rename_i vs he;rw[he]at h2;obtain⟨a,rfl,h3⟩:=h2.CS;split at hw
    ·rename_i w hi;obtain⟨hK,_⟩:=eu hw;have aU:=(List.getElem?_eq_some_iff.1 hi).1;have eA:i<a.toList.length:=by rw[←h3.1];exact aU
     obtain⟨x,hx⟩:∃x,a.toList[i]? =some x:=⟨_,List.getElem?_eq_getElem eA⟩;exact eZ.pure H (x:=x) (by simp only[aX,h1,Option.bind_some];exact hx) (h3.2 i w x hi hx) hK
    ·exact hw.elim
   ·exact hw.elim
  |call q=>
   obtain⟨callee,td,argTypes⟩:=q;simp only at hw;split at hw
   ·rename_i b;have adw:td.toList.all (rT T)=true:=by simpa[Op.operands,Call.operands]using kG
    obtain⟨vs,h1,h2⟩:=ph (E:=E) L N S adw;exact E8 L H hw h2 h1
   ·rename_i g;have he:rT T g=true∧td.toList.all (rT T)=true:=by simpa[Op.operands,Call.operands]using kG
    obtain⟨gv,h1,h2⟩:=qh (E:=E) L N S he.1;obtain⟨vs,h3,h4⟩:=ph (E:=E) L N S he.2;split at hw
    ·rename_i g' a b hg;rw[hg]at h2;cases h2 with
     |cW hs ha ht hk=>
      rename_i a' k';have xm:dF c ρ F h a a'.toList:=⟨by simpa using hs,fun i t v q1 q2=>ha i t v q1 (by simpa using q2)⟩;have o8:dF c ρ F h b k'.toList:=⟨by simpa using ht,fun i t v q1 q2=>hk i t v q1 (by simpa using q2)⟩;refine OO NX H (L.still g') hw ((xm.append h4).append o8) rfl rfl rfl ?_;simp only[dj,h3,h1,Option.bind_some]
    ·exact hw.elim
   ·exact hw.elim
  |_=>exact hw.elim
end
def Da (h:ae) (b:Nat):Prop:=(∃cs,h.rd b=some cs)∨∃ob,h.get b=some ob∧∀cs f t th,ob≠ .cells cs f t th
theorem Mem.live {X:Cx} {ρ:Gh} {F:Nat→Prop} {o:Ob} {c:Nat} {h:ae} (H:Mem X ρ F o c h) {m:Nat} {y:TO} {b:Nat} (hl:look o m=some y) (hb:A0 ρ m b):Da h b:=by
 obtain⟨Sm,hO⟩:=H.b9 hl;cases hO with
 |cells h1 hg ht hc=>
  rcases hb with hb|⟨z,l,hb⟩<;>rw[h1]at hb<;>cases hb
  exact .inl (⟨_,eK (cB hg hg) ht (by unfold ae.cellsOf;rw[hg])⟩)
 |map h1 hg=>rcases hb with hb|⟨z,l,hb⟩<;>rw[h1]at hb<;>cases hb;exact .inr ⟨_,hg,by simp⟩
 |fC h1 hg=>rcases hb with hb|⟨z,l,hb⟩<;>rw[h1]at hb<;>cases hb;exact .inr ⟨_,hg,by simp⟩
 |eE h1 hg=>rcases hb with hb|⟨z,l,hb⟩<;>rw[h1]at hb<;>cases hb;exact .inr ⟨_,hg,by simp⟩
 |nil h1=>rcases hb with hb|⟨z',l,hb⟩<;>rw[h1]at hb<;>cases hb
 |gF h1=>rcases hb with hb|⟨z',l,hb⟩<;>rw[h1]at hb<;>cases hb
 |arr h1 hg hf ht=>rcases hb with hb|⟨z',l,hb⟩<;>rw[h1]at hb<;>cases hb;exact .inl (⟨_,eK hf ht (by unfold ae.cellsOf;rw[hg])⟩)
 |b6 h1 hg hf ht=>rcases hb with hb|⟨z',l,hb⟩<;>rw[h1]at hb<;>cases hb;exact .inl (⟨_,eK hf ht (by unfold ae.cellsOf;rw[hg])⟩)
theorem yk:∀{o:Ob} {m:Nat},m∈YG o→∃y,look o m=some y
 |[],m,h=>by simp[YG]at h
 |p::o,m,h=>by
  rw[aQ];by_cases e:p.1=m
  ·exact⟨p.2,by simp[e]⟩
  ·rw[if_neg e];simp only[YG,List.mem_cons]at h;rcases h with h|h
   ·exact absurd h.symm e
   ·exact yk h
def SY:TV→Bool
 | .mp _=>true
 | .ptr _ _=>true
 |_=>false
def nY (ρ:Gh) (o:Ob) (h:ae):Prop:=∀n cs p v,look o n=some (.cells cs)→cs[p]? =some v→SY v=true→∃b x,ρ n=some (.di b)∧al h b p 1=some [x]∧kV ρ v x
theorem Mem.Db {X:Cx} {ρ:Gh} {F:Nat→Prop} {o:Ob} {c:Nat} {h:ae} (H:Mem X ρ F o c h):nY ρ o h:=by
 intro n cs p v hl hp hv;obtain⟨Sm,hO⟩:=H.b9 hl;cases hO with
 |cells hb hg ht hc=>
  rename_i S b ba cv;obtain⟨S1,S2,S3,_,a1,a2,a3⟩:=hc.part p 1;have aU:=(List.getElem?_eq_some_iff.1 hp).1;have e1:(cs.drop p).take 1=[v]:=by
   rw[List.drop_eq_getElem_cons aU,List.take_succ_cons,List.take_zero];rw[(List.getElem?_eq_some_iff.1 hp).2]
  rw[e1]at a2;have hV:=a2.US (fun t v hv hf=>hv.dp hf) (by cases v<;>first|rfl |simp[SY]at hv);obtain⟨x,m1,e2,hx,Ha⟩:=hV.1.aL;obtain rfl:=Ha.bC;have hlen:=hc.len;have fN:=eK (cB hg hg) ht (aR hg);refine⟨b,x,hb,?_,?_⟩
  ·unfold al;rw[fN];simp only[Option.bind_some,bm];exact⟨by rw[List.length_drop];omega,e2.symm⟩
  ·cases v with
   |mp k=>cases hx with|mp h1=>exact .inl ⟨_,_,rfl,h1,rfl⟩
   |ptr k q=>cases hx with|ptr h1=>exact .inr ⟨_,_,_,rfl,h1,rfl⟩
   |_=>simp[SY]at hv
inductive uJ (oF:Ob):Gh→(Nat→Prop)→Ob→ae→List VN→List dU→Prop
 |nil {ρ:Gh} {F:Nat→Prop} {h:ae} (bV:nY ρ oF h):uJ oF ρ F oF h [] []
 |cons {ρ ρ':Gh} {F F':Nat→Prop} {o o':Ob} {h h':ae} {l:VL} {e:dU} {ls:List VN} {es:List dU} (hl:fJ ρ F o h ρ' o' h' l e) (hw:Wf h) (hs:h.size≤h'.size) (hF:∀b,F b→F' b) (db:∀b cs,F b→h.rd b=some cs→h'.rd b=some cs)
  (SZ:∀m y b,look o m=some y→A0 ρ m b→Da h b) (m9:∀k b,ρ k=some (.di b)→ρ' k=some (.di b)) (bV:nY ρ o h) (hr:uJ oF ρ' F' o' h' ls es):uJ oF ρ F o h ((l,o)::ls) (e::es)
theorem uJ.next {oF:Ob} {ρ:Gh} {F:Nat→Prop} {o:Ob} {h:ae} {ls:List VN} {es:List dU} (H:uJ oF ρ F o h ls es):JK oF ls=o∧nY ρ o h:=by
 cases H with
 |nil bV=>exact⟨rfl,bV⟩
 |cons _ _ _ _ _ _ _ bV _=>exact⟨rfl,bV⟩
theorem wU {h:ae} (W:Wf h) (q:RQ):rA h q=true:=by
 unfold rA;rw[bT];split
 ·rename_i hb;split
  ·rename_i f t th hg;rw[a7]at hb ⊢;have:=W.le _ _ _ _ _ hg;omega
  ·rfl
 ·rfl
theorem yl {h:ae} (W:Wf h) {q:RQ} (hn:lX q h):q.di<h.size:=by
 cases q with
 |cells a b o n=>
  obtain⟨l,h1,_⟩:=hn;unfold al at h1;simp only[Option.bind_eq_some_iff]at h1;obtain⟨cs,h2,_⟩:=h1;obtain⟨f,t,th,hg⟩:=CU h2;exact W.lt hg
 |look r kd k z ok=>
  obtain⟨m,h1,_⟩:=hn;unfold eQ at h1;split at h1
  ·rename_i hg;exact W.lt hg
  ·cases h1
 |len r=>
  obtain⟨m,h1,_⟩:=hn;unfold eQ at h1;split at h1
  ·rename_i hg;exact W.lt hg
  ·cases h1
theorem jb {h h':ae} {q:RQ} (hn:lX q h) (hg:(∃a b o n,q= .cells a b o n)∨h'.get q.di=h.get q.di) (hr:∀cs,h.rd q.di=some cs→h'.rd q.di=some cs):lX q h'∧fD h h' q=true:=by
 cases q with
 |cells a b o n=>
  obtain⟨l,h1,h2⟩:=hn;have h3:al h' b o n=some l:=by
   unfold al at h1 ⊢;simp only[Option.bind_eq_some_iff]at h1 ⊢;obtain⟨cs,h4,h5⟩:=h1;exact⟨cs,hr cs h4,h5⟩
  refine⟨⟨l,h3,h2⟩,?_⟩;unfold fD;rw[Bool.or_eq_true];left;unfold lQ;rw[bT];split
  ·simp only[h1,h3,h2]
  ·rfl
 |look r kd k z ok=>
  obtain⟨m,h1,h2⟩:=hn;have lN:h'.get r=h.get r:=by
   rcases hg with⟨a,b,o,n,e⟩|hg
   ·cases e
   ·exact hg
  have h3:eQ h' r=some m:=by unfold eQ at h1 ⊢;rw[lN];exact h1
  refine⟨⟨m,h3,h2⟩,?_⟩;unfold fD;rw[Bool.or_eq_true];left;unfold lQ;rw[bT];split
  ·simp only[h1,h3,h2]
  ·rfl
 |len r=>
  obtain⟨m,h1,h2⟩:=hn;have lN:h'.get r=h.get r:=by
   rcases hg with⟨a,b,o,n,e⟩|hg
   ·cases e
   ·exact hg
  have h3:eQ h' r=some m:=by unfold eQ at h1 ⊢;rw[lN];exact h1
  refine⟨⟨m,h3,h2⟩,?_⟩;unfold fD;rw[Bool.or_eq_true];left;unfold lQ;rw[bT];split
  ·simp only[h1,h3,h2]
  ·rfl
theorem hZ (h:ae) (q:RQ):fD h h q=true:=by
 unfold fD;rw[Bool.or_eq_true];exact .inr (decide_eq_true (inst:=Classical.propDecidable _) rfl)
section
variable {bs:List Nat} {i:Nat} {oF:Ob}
theorem te:∀{ls:List VN} {j:Nat},fG bs oF j ls=true→∀l∈ls,l.1≠ .bad
 |[],_,_,l,hl=>by simp at hl
 |x::ls,j,hd,l,hl=>by
  have key:fG bs oF (j+1) ls=true∧x.1≠ .bad:=by
   obtain⟨x,nm⟩:=x;cases x<;>simp only[fG,Bool.and_eq_true]at hd
   ·exact⟨hd,by simp⟩
   ·exact⟨hd,by simp⟩
   ·exact⟨hd,by simp⟩
   ·exact⟨hd.2,by simp⟩
   ·exact⟨hd.2,by simp⟩
   ·exact⟨hd.2,by simp⟩
   ·exact⟨hd.2,by simp⟩
   ·exact⟨hd.2,by simp⟩
   ·cases hd
  rcases List.mem_cons.1 hl with rfl |h1
  ·exact key.2
  ·exact te key.1 l h1
theorem U5 {q:RQ} (hc:∃a b o n,q= .cells a b o n) {qP:ae}:∀{ls:List VN} {es:List dU} {ρ:Gh} {F:Nat→Prop} {o:Ob} {h:ae} {j:Nat},uJ oF ρ F o h ls es→(∀l∈ls,l.1≠ .bad)→F q.di→lX q h→cD bs i (.rd q qP) j es=true
 |_,_,ρ,F,_,h,j,.nil _,_,_,_=>rfl
 |_,_,ρ,F,o,h,j,.cons (h':=h') (l:=l) (e:=e) hl hw hs hF db SZ m9 bV hr,oO,hFq,hn=>by
  obtain⟨k1,k2⟩:=jb (h':=h') hn (.inl hc) (fun cs=>db _ cs hFq);have ih:=U5 hc (qP:=qP) (j:=j+1) hr (fun l hl=>oO l (List.mem_cons_of_mem _ hl)) (hF _ hFq) k1;simp only[cD,Bool.and_eq_true];refine⟨?_,ih⟩;cases hl with
  |pure=>rfl
  |alloc=>exact wU hw q
  |JE=>rfl
  |lM=>rfl
  |Ag=>rfl
  |dr=>simp[bc,k2]
  |oJ hr hh=>subst hh;simp[bc,hZ]
  |oK=>simp[bc,k2]
  |bad=>exact absurd rfl (oO _ List.mem_cons_self)
theorem pr {q:RQ} {n:Nat} {qP:ae}:∀{ls:List VN} {es:List dU} {ρ:Gh} {F:Nat→Prop} {o:Ob} {h:ae} {j:Nat} {dZ:Bool},uJ oF ρ F o h ls es→(∀l∈ls,l.1≠ .bad)→pe bs i n j ls dZ=true→
 (dZ=false→(∃y,look o n=some y)∧A0 ρ n q.di∧lX q h)→cD bs i (.rd q qP) j es=true
 |_,_,ρ,F,_,h,j,dZ,.nil _,_,_,_=>rfl
 |_,_,ρ,F,o,h,j,dZ,.cons (ρ':=ρ') (o':=o') (h':=h') (l:=l) (e:=e) (ls:=ls) hl hw hs hF db SZ m9 bV hr,oO,hp,ht=>by
  have cV:∀l∈ls,l.1≠ .bad:=fun l hl=>oO l (List.mem_cons_of_mem _ hl)
  -- an operation that leaves the object alone
  have quiet:∀ns,Raw ρ o h ρ' o' h' ns→n∉ns→dZ=false→((∃y,look o' n=some y)∧A0 ρ' n q.di∧lX q h')∧fD h h' q=true:=by
   intro ns bE Ch hd;obtain⟨⟨y,hy⟩,D3,hn⟩:=ht hd;obtain⟨⟨y',r1⟩,r2,r3⟩:=bE n y hy Ch;obtain⟨r4,r5⟩:=r3 _ D3;obtain⟨k1,k2⟩:=jb hn (.inr r4) r5;exact⟨⟨⟨y',r1⟩,by unfold A0 at D3 ⊢;rw[r2];exact D3,k1⟩,k2⟩
  simp only[cD,Bool.and_eq_true];cases hl with
  |pure bE=>exact⟨rfl,pr hr cV hp fun hd=>(quiet _ bE (by simp) hd).1⟩
  |alloc bE=>exact⟨wU hw q,pr hr cV hp fun hd=>(quiet _ bE (by simp) hd).1⟩
  |JE bE=>exact⟨rfl,pr hr cV hp fun hd=>(quiet _ bE (by simp) hd).1⟩
  |lM bE=>exact⟨rfl,pr hr cV hp fun hd=>(quiet _ bE (by simp) hd).1⟩
  |Ag bE=>exact⟨rfl,pr hr cV hp fun hd=>(quiet _ bE (by simp) hd).1⟩
  |dr bE=>
   rename_i ns;simp only[pe]at hp;split at hp
   ·rename_i hc;simp only[Bool.and_eq_true]at hp;exact⟨by simp[bc,hp.1],pr hr cV hp.2 fun hd=>by cases hd⟩
   ·rename_i hc;have hd:dZ=false:=by cases dZ<;>simp_all
    have Ch:n∉ns:=by subst hd;simpa using hc
    obtain⟨q1,q2⟩:=quiet _ bE Ch hd;exact⟨by simp[bc,q2],pr hr cV hp fun _=>q1⟩
  |oJ bE hh=>
   rename_i ns;subst hh;simp only[pe]at hp;refine⟨by simp[bc,hZ],pr hr cV hp fun hd=>?_⟩;simp only[Bool.or_eq_false_iff]at hd;exact(quiet _ bE (by simpa using hd.2) hd.1).1
  |oK bE=>
   simp only[pe]at hp;split at hp
   ·simp only[Bool.and_eq_true]at hp;exact⟨by simp[bc,hp.1],pr hr cV hp.2 fun hd=>by cases hd⟩
   ·obtain⟨q1,q2⟩:=quiet _ bE (by simp) rfl;exact⟨by simp[bc,q2],pr hr cV hp fun _=>q1⟩
  |bad=>exact absurd rfl (oO _ List.mem_cons_self)
theorem kV.bw {ρ ρ':Gh} {v:TV} {x:Value} (H:kV ρ v x) (hk:∀k b,ρ k=some (.di b)→ρ' k=some (.di b)):kV ρ' v x:=by
 rcases H with⟨k,b,h1,h2,h3⟩|⟨k,q,b,h1,h2,h3⟩
 ·exact .inl ⟨k,b,h1,hk _ _ h2,h3⟩
 ·exact .inr ⟨k,q,b,h1,hk _ _ h2,h3⟩
theorem kV.uniq {ρ:Gh} {v:TV} {x y:Value} (H:kV ρ v x) (K:kV ρ v y):x=y:=by
 rcases H with⟨k,b,rfl,h2,rfl⟩|⟨k,q,b,rfl,h2,rfl⟩<;>rcases K with⟨k',b',e,k2,rfl⟩|⟨k',q',b',e,k2,rfl⟩<;>cases e<;>rw[h2]at k2<;>cases k2<;>rfl
theorem kV.DV {ρ:Gh} {v:TV} {x:Value} (H:kV ρ v x):kj [x] [x]=true∧SY v=true:=by
 rcases H with⟨k,b,rfl,h2,rfl⟩|⟨k,q,b,rfl,h2,rfl⟩<;>exact⟨by simp[kj,kh],rfl⟩
theorem A9 {v w:TV} (h:CQ v w=true):w=v:=by
 cases v<;>cases w<;>simp[CQ]at h
 ·obtain⟨rfl,rfl⟩:=h;rfl
 ·subst h;rfl
theorem jc {n p b:Nat} {v:TV} {x:Value} {qP:ae}:∀{ls:List VN} {es:List dU} {ρ:Gh} {F:Nat→Prop} {o:Ob} {h:ae} {j:Nat} {dZ:Bool},uJ oF ρ F o h ls es→(∀l∈ls,l.1≠ .bad)→mY bs i n p v oF j ls dZ=true→
 (dZ=false→(∃y,look o n=some y)∧ρ n=some (.di b)∧al h b p 1=some [x]∧kV ρ v x)→cD bs i (.rd (.cells false b p 1) qP) j es=true
 |_,_,ρ,F,_,h,j,dZ,.nil _,_,_,_=>rfl
 |_,_,ρ,F,o,h,j,dZ,.cons (ρ':=ρ') (o':=o') (h':=h') (l:=l) (e:=e) (ls:=ls) hl hw hs hF db SZ m9 bV hr,oO,hp,ht=>by
  have cV:∀l∈ls,l.1≠ .bad:=fun l hl=>oO l (List.mem_cons_of_mem _ hl);have same:∀{h1:ae},dZ=false→al h1 b p 1=some [x]→fD h h1 (.cells false b p 1)=true:=by
   intro h1 hd h2;obtain⟨_,_,h3,h4⟩:=ht hd;unfold fD;rw[Bool.or_eq_true];left;unfold lQ;rw[bT];split
   ·simp only[h3,h2,h4.DV.1]
   ·rfl
  have quiet:∀ns,Raw ρ o h ρ' o' h' ns→n∉ns→dZ=false→(∃y,look o' n=some y)∧ρ' n=some (.di b)∧al h' b p 1=some [x]∧kV ρ' v x:=by
   intro ns bE Ch hd;obtain⟨⟨y,hy⟩,hb,fN,hx⟩:=ht hd;obtain⟨⟨y',r1⟩,r2,r3⟩:=bE n y hy Ch;obtain⟨r4,r5⟩:=r3 _ (.inl hb);refine⟨⟨y',r1⟩,m9 _ _ hb,?_,hx.bw m9⟩;unfold al at fN ⊢;simp only[Option.bind_eq_some_iff]at fN ⊢;obtain⟨cs,h4,h5⟩:=fN;exact⟨cs,r5 cs h4,h5⟩
  simp only[cD,Bool.and_eq_true];cases hl with
  |pure bE=>exact⟨rfl,jc hr cV hp fun hd=>quiet _ bE (by simp) hd⟩
  |alloc bE=>exact⟨wU hw _,jc hr cV hp fun hd=>quiet _ bE (by simp) hd⟩
  |JE bE=>exact⟨rfl,jc hr cV hp fun hd=>quiet _ bE (by simp) hd⟩
  |lM bE=>exact⟨rfl,jc hr cV hp fun hd=>quiet _ bE (by simp) hd⟩
  |Ag bE=>exact⟨rfl,jc hr cV hp fun hd=>quiet _ bE (by simp) hd⟩
  |dr bE=>
   rename_i ns;simp only[mY]at hp;split at hp
   ·simp only[Bool.and_eq_true]at hp;exact⟨by simp[bc,hp.1],jc (x:=x) hr cV hp.2 fun hd=>by cases hd⟩
   ·split at hp
    ·rename_i hc;have Ch:n∉ns:=by simpa using hc
     have q1:=quiet _ bE Ch rfl;exact⟨by simp[bc,same rfl q1.2.2.1],jc hr cV hp fun _=>q1⟩
    ·split at hp
     ·rename_i Ip;obtain⟨e1,e2⟩:=hr.next;rw[e1]at Ip;unfold pf at Ip;split at Ip
      ·rename_i cs Ci;split at Ip
       ·rename_i w OJ;obtain rfl:=A9 Ip;obtain⟨_,hb,_,hx⟩:=ht rfl;obtain⟨b',x',k1,k2,k3⟩:=e2 n cs p _ Ci OJ hx.DV.2;rw[m9 _ _ hb]at k1;cases k1;obtain rfl:=(hx.bw m9).uniq k3;exact⟨by simp[bc,same rfl k2],jc hr cV hp fun _=>⟨⟨_,Ci⟩,m9 _ _ hb,k2,k3⟩⟩
       ·cases Ip
      ·cases Ip
     ·simp only[Bool.and_eq_true]at hp;exact⟨by simp[bc,hp.1],jc (x:=x) hr cV hp.2 fun hd=>by cases hd⟩
  |oJ bE hh=>
   rename_i ns;subst hh;simp only[mY]at hp;refine⟨by simp[bc,hZ],jc (x:=x) hr cV hp fun hd=>?_⟩;simp only[Bool.or_eq_false_iff]at hd;exact quiet _ bE (by simpa using hd.2) hd.1
  |oK bE=>
   simp only[mY]at hp;split at hp
   ·simp only[Bool.and_eq_true]at hp;exact⟨by simp[bc,hp.1],jc (x:=x) hr cV hp.2 fun hd=>by cases hd⟩
   ·have q1:=quiet _ bE (by simp) rfl;exact⟨by simp[bc,same rfl q1.2.2.1],jc hr cV hp fun _=>q1⟩
  |bad=>exact absurd rfl (oO _ List.mem_cons_self)
def ym (ρ:Gh) (ob oa:Ob) (g g':ae):Prop:=∀m p v,pf ob m p v=true→pf oa m p v=true→∃b x,ρ m=some (.di b)∧al g b p 1=some [x]∧al g' b p 1=some [x]∧kV ρ v x
theorem ym.bw {ρ ρ':Gh} {ob oa:Ob} {g g':ae} (H:ym ρ ob oa g g') (m9:∀k b,ρ k=some (.di b)→ρ' k=some (.di b)):ym ρ' ob oa g g':=by
 intro m p v h1 h2;obtain⟨b,x,k1,k2,k3,k4⟩:=H m p v h1 h2;exact⟨b,x,m9 _ _ k1,k2,k3,k4.bw m9⟩
theorem yp {ρ:Gh} {o:Ob} {h:ae} {m p:Nat} {v:TV} (H:nY ρ o h) (hc:pf o m p v=true):∃b x,ρ m=some (.di b)∧al h b p 1=some [x]∧kV ρ v x:=by
 unfold pf at hc;split at hc
 ·rename_i cs Ci;split at hc
  ·rename_i w OJ;obtain rfl:=A9 hc;exact H m cs p _ Ci OJ (by cases w<;>first|rfl |simp[CQ]at hc)
  ·cases hc
 ·cases hc
theorem OU {ρ ρ':Gh} {ob oa:Ob} {g g':ae} (H:nY ρ ob g) (H':nY ρ' oa g') (m9:∀k b,ρ k=some (.di b)→ρ' k=some (.di b)):ym ρ' ob oa g g':=by
 intro m p v h1 h2;obtain⟨b,x,k1,k2,k3⟩:=yp H h1;obtain⟨b',x',l1,l2,l3⟩:=yp H' h2;rw[m9 _ _ k1]at l1;cases l1;obtain rfl:=(k3.bw m9).uniq l3;exact⟨b,x,m9 _ _ k1,k2,l2,l3⟩
theorem jA {g g':ae} {nm:List Nat} {ob oa:Ob}:∀{ls:List VN} {es:List dU} {ρ:Gh} {F:Nat→Prop} {o:Ob} {h:ae} {xR:List Nat} {j:Nat},uJ oF ρ F o h ls es→(∀l∈ls,l.1≠ .bad)→kb bs i nm ob oa xR j ls=true→ym ρ ob oa g g'→
 (∀m∈nm,m∉xR→(∃y,look o m=some y)∧∀b,A0 ρ m b→Da g b∧g'.get b=g.get b∧(∀cs,g.rd b=some cs→g'.rd b=some cs)∧h.get b=g.get b∧(∀cs,g.rd b=some cs→h.rd b=some cs))→cD bs i (.dr g g') j es=true
 |_,_,ρ,F,_,h,xR,j,.nil _,_,_,_,_=>rfl
 |_,_,ρ,F,o,h,xR,j,.cons (ρ':=ρ') (o':=o') (h':=h') (l:=l) (e:=e) (ls:=ls) hl hw hs hF db SZ m9 bV hr,oO,hp,hB,ht=>by
  have U6:=hB.bw m9;have cV:∀l∈ls,l.1≠ .bad:=fun l hl=>oO l (List.mem_cons_of_mem _ hl);have next:∀(ms Wu:List Nat),Raw ρ o h ρ' o' h' ms→(∀m,m∉Wu→m∉xR∧m∉ms)→∀m∈nm,m∉Wu→(∃y,look o' m=some y)∧∀b,A0 ρ' m b→Da g b∧g'.get b=g.get b∧(∀cs,g.rd b=some cs→g'.rd b=some cs)∧h'.get b=g.get b∧(∀cs,g.rd b=some cs→h'.rd b=some cs):=by
   intro ms Wu bE gG m hm S5;obtain⟨q1,q2⟩:=gG m S5;obtain⟨⟨y,hy⟩,hb⟩:=ht m hm q1;obtain⟨⟨y',r1⟩,r2,r3⟩:=bE m y hy q2;refine⟨⟨y',r1⟩,fun b LH=>?_⟩;have aag:A0 ρ m b:=by unfold A0 at LH ⊢;rw[←r2];exact LH
   obtain⟨a1,a2,a3,a4,a5⟩:=hb b aag;obtain⟨b1,b2⟩:=r3 b aag;exact⟨a1,a2,a3,b1.trans a4,fun cs qF=>b2 cs (a5 cs qF)⟩
  simp only[cD,Bool.and_eq_true];cases hl with
  |pure bE=>exact⟨rfl,jA hr cV hp U6 (next _ _ bE fun m hm=>⟨hm,by simp⟩)⟩
  |alloc bE=>exact⟨rfl,jA hr cV hp U6 (next _ _ bE fun m hm=>⟨hm,by simp⟩)⟩
  |JE bE=>simp only[kb,Bool.and_eq_true]at hp;exact⟨by simp[bc,hp.1],jA hr cV hp.2 U6 (next _ _ bE fun m hm=>⟨hm,by simp⟩)⟩
  |lM bE hh hy hb hn=>
   rename_i q m y;simp only[kb,Bool.and_eq_true,Bool.or_eq_true]at hp;refine⟨?_,jA hr cV hp.2 U6 (next _ _ bE fun m hm=>⟨hm,by simp⟩)⟩;rcases hp.1 with ho|ho
   ·simp[bc,ho]
   ·simp only[Bool.not_eq_true']at ho;have hm:m∈nm:=by simpa using ho.1
    have S5:m∉xR:=by simpa using ho.2
    obtain⟨a1,a2,a3,a4,a5⟩:=(ht m hm S5).2 _ hb;have hng:lX q g:=by
     cases q with
     |cells a b o' n'=>
      obtain⟨l,r1,r2⟩:=hn;refine⟨l,?_,r2⟩;unfold al at r1 ⊢;rcases a1 with⟨cs,a1⟩|⟨ob,a1,a1n⟩
      ·have:=a5 cs a1;simp only[RQ.di]at a1 this;rw[this]at r1;rw[a1];exact r1
      ·simp only[RQ.di]at a1 a4;exfalso;simp only[Option.bind_eq_some_iff]at r1;obtain⟨cs,r3,_⟩:=r1;obtain⟨f,t,th,r4⟩:=CU r3;rw[a4,a1]at r4;exact a1n _ _ _ _ (Option.some.inj r4)
     |look r kd k z ok=>
      obtain⟨mm,r1,r2⟩:=hn;refine⟨mm,?_,r2⟩;simp only[RQ.di]at a4;unfold eQ at r1 ⊢;rw[←a4];exact r1
     |len r=>
      obtain⟨mm,r1,r2⟩:=hn;refine⟨mm,?_,r2⟩;simp only[RQ.di]at a4;unfold eQ at r1 ⊢;rw[←a4];exact r1
    have:=(jb hng (.inr a2) a3).2;simp[bc,this]
  |Ag bE hh hy vh hx adz=>
   rename_i m p0 b0 v0 x0 y;have hb:A0 ρ m (RQ.di (.cells false b0 p0 1)):=.inl vh;have hn:lX (.cells false b0 p0 1) h:=⟨_,adz,hx.DV.1⟩;simp only[kb,Bool.and_eq_true,Bool.or_eq_true]at hp;refine⟨?_,jA hr cV hp.2 U6 (next _ _ bE fun m hm=>⟨hm,by simp⟩)⟩;rcases hp.1 with (ho|ho)|ho
   ·simp[bc,ho]
   ·simp only[Bool.not_eq_true']at ho;have hm:m∈nm:=by simpa using ho.1
    have S5:m∉xR:=by simpa using ho.2
    obtain⟨a1,a2,a3,a4,a5⟩:=(ht m hm S5).2 _ hb;have hng:lX (.cells false b0 p0 1) g:=by
     obtain⟨l,r1,r2⟩:=hn;refine⟨l,?_,r2⟩;unfold al at r1 ⊢;rcases a1 with⟨cs,a1⟩|⟨ob,a1,a1n⟩
     ·have:=a5 cs a1;simp only[RQ.di]at a1 this;rw[this]at r1;rw[a1];exact r1
     ·simp only[RQ.di]at a1 a4;exfalso;simp only[Option.bind_eq_some_iff]at r1;obtain⟨cs,r3,_⟩:=r1;obtain⟨f,t,th,r4⟩:=CU r3;rw[a4,a1]at r4;exact a1n _ _ _ _ (Option.some.inj r4)
    have:=(jb hng (.inr a2) a3).2;simp[bc,this]
   ·obtain⟨b1,x1,k1,k2,k3,k4⟩:=hB _ _ _ ho.1 ho.2;rw[vh]at k1;cases k1;obtain rfl:=hx.uniq k4;have:fD g g' (.cells false b0 p0 1)=true:=by
     unfold fD;rw[Bool.or_eq_true];left;unfold lQ;rw[bT];split
     ·simp only[k2,k3,hx.DV.1]
     ·rfl
    simp[bc,this]
  |dr bE=>
   simp only[kb,Bool.and_eq_true]at hp;exact⟨by simp[bc,hp.1],jA hr cV hp.2 U6 (next _ _ bE fun m hm=>by simp only[List.mem_append,not_or]at hm;exact hm)⟩
  |oJ bE hh=>
   simp only[kb,Bool.and_eq_true]at hp;exact⟨by simp[bc,hp.1],jA hr cV hp.2 U6 (next _ _ bE fun m hm=>by simp only[List.mem_append,not_or]at hm;exact hm)⟩
  |oK bE=>
   simp only[kb,Bool.and_eq_true]at hp;exact⟨by simp[bc,hp.1],jA hr cV hp.2 U6 (next _ _ bE fun m hm=>⟨hm,by simp⟩)⟩
  |bad=>exact absurd rfl (oO _ List.mem_cons_self)
theorem nZ {g:ae}:∀{ls:List VN} {es:List dU} {ρ:Gh} {F:Nat→Prop} {o:Ob} {h:ae} {j:Nat},uJ oF ρ F o h ls es→(∀l∈ls,l.1≠ .bad)→sR bs i j ls=true→cD bs i (.dr g g) j es=true
 |_,_,ρ,F,_,h,j,.nil _,_,_=>rfl
 |_,_,ρ,F,o,h,j,.cons (ls:=ls) hl hw hs hF db SZ m9 bV hr,oO,hp=>by
  have cV:∀l∈ls,l.1≠ .bad:=fun l hl=>oO l (List.mem_cons_of_mem _ hl);simp only[cD,Bool.and_eq_true];cases hl with
  |pure bE=>exact⟨rfl,nZ hr cV hp⟩
  |alloc bE=>exact⟨rfl,nZ hr cV hp⟩
  |JE bE=>exact⟨by simp[bc,hZ],nZ hr cV hp⟩
  |lM bE=>exact⟨by simp[bc,hZ],nZ hr cV hp⟩
  |Ag bE=>exact⟨by simp[bc,hZ],nZ hr cV hp⟩
  |dr bE=>simp only[sR,Bool.and_eq_true]at hp;exact⟨by simp[bc,hp.1],nZ hr cV hp.2⟩
  |oJ bE=>simp only[sR,Bool.and_eq_true]at hp;exact⟨by simp[bc,hp.1],nZ hr cV hp.2⟩
  |oK bE=>simp only[sR,Bool.and_eq_true]at hp;exact⟨by simp[bc,hp.1],nZ hr cV hp.2⟩
  |bad=>exact absurd rfl (oO _ List.mem_cons_self)
theorem Wv {h h':ae} (W:Wf h) (same:∀x,x<h.size→h'.get x=h.get x) {b:Nat} {cs:List Value} (hr:h.rd b=some cs):h'.rd b=some cs:=by
 obtain⟨r,h1,h2,h3⟩:=rd_some hr;obtain⟨f1,t1,zN,hg⟩:=dK h3;obtain⟨cr,qH⟩:=bX h1;obtain⟨uc,q1,q2,xj⟩:=dO h1;rw[hg]at xj;cases xj;have a1:=same b (W.lt hg);have a2:=same r.1 (W.lt qH);exact eK (cB (a1.trans hg) (a2.trans qH)) h2 (aR (a1.trans hg))
theorem S6 {h h':ae} (W:Wf h) (same:∀x,x<h.size→h'.get x=h.get x) {b:Nat} (hb:b<h.size) {cs:List Value} (hr:h'.rd b=some cs):h.rd b=some cs:=by
 obtain⟨r,h1,h2,h3⟩:=rd_some hr;obtain⟨f1,t1,zN,hg⟩:=dK h3;obtain⟨cr,qH⟩:=bX h1;obtain⟨uc,q1,q2,xj⟩:=dO h1;rw[hg]at xj;cases xj;have a1:=(same b hb).symm.trans hg;have hle:=W.le _ _ _ _ _ a1;have a2:=(same r.1 om).symm.trans qH;exact eK (cB a1 a2) h2 (aR a1)
theorem LI {g g' h:ae} (W:Wf g) (hG:∀b,b<g.size→g'.get b=g.get b) (hq:∀b,b<g.size→h.get b=g.get b) {q:RQ} (hn:lX q h):fD g g' q=true:=by
 by_cases hb:q.di<g.size
 ·have k1:=jb (h:=h) (h':=g) hn (.inr (hq _ hb).symm) fun cs hr=>S6 W hq hb hr;exact(jb k1.1 (.inr (hG _ hb)) fun cs hr=>Wv W hG hr).2
 ·unfold fD lQ;have e:Nat.blt q.di g.size=false:=by
   cases hx:Nat.blt q.di g.size with
   |false=>rfl
   |true=>exact absurd (a7.1 hx) hb
  rw[e];rfl
theorem od {g g':ae} (W:Wf g) (hG:∀b,b<g.size→g'.get b=g.get b):∀{ls:List VN} {es:List dU} {ρ:Gh} {F:Nat→Prop} {o:Ob} {h:ae} {q:Bool} {j:Nat},uJ oF ρ F o h ls es→(∀l∈ls,l.1≠ .bad)→jM bs i q j ls=true→
 (q=true→g.size≤h.size∧∀b,b<g.size→h.get b=g.get b)→cD bs i (.dr g g') j es=true
 |_,_,ρ,F,_,h,q,j,.nil _,_,_,_=>rfl
 |_,_,ρ,F,o,h,q,j,.cons (ls:=ls) hl hw hs hF db SZ m9 bV hr,oO,hp,hq=>by
  have cV:∀l∈ls,l.1≠ .bad:=fun l hl=>oO l (List.mem_cons_of_mem _ hl);simp only[cD,Bool.and_eq_true];have rdc:∀{x:RQ},(q||ordered bs i j)=true→lX x h→bc bs i (.dr g g') j (.rd x h)=true:=fun {x} ho hn=>by
   rcases Bool.or_eq_true _ _▸ho with e|e
   ·simp[bc,LI W hG (hq e).2 hn]
   ·simp[bc,e]
  cases hl with
  |pure bE hh=>subst hh;exact⟨rfl,od W hG hr cV hp hq⟩
  |alloc bE=>exact⟨rfl,od W hG hr cV (q:=false) hp fun e=>by cases e⟩
  |JE bE hh hFq hc hn=>subst hh;simp only[jM,Bool.and_eq_true]at hp;exact⟨rdc hp.1 hn,od W hG hr cV hp.2 hq⟩
  |lM bE hh hy hb hn=>subst hh;simp only[jM,Bool.and_eq_true]at hp;exact⟨rdc hp.1 hn,od W hG hr cV hp.2 hq⟩
  |Ag bE hh hy hb hx fN=>subst hh;simp only[jM,Bool.and_eq_true]at hp;exact⟨rdc hp.1 ⟨_,fN,hx.DV.1⟩,od W hG hr cV hp.2 hq⟩
  |dr bE=>simp only[jM,Bool.and_eq_true]at hp;exact⟨by simp[bc,hp.1],od W hG hr cV (q:=false) hp.2 fun e=>by cases e⟩
  |oJ bE hh=>subst hh;simp only[jM,Bool.and_eq_true]at hp;exact⟨by simp[bc,hp.1],od W hG hr cV hp.2 hq⟩
  |oK bE hG2=>
   simp only[jM,Bool.and_eq_true]at hp;exact⟨by simp[bc,hp.1],od W hG hr cV hp.2 fun e=>⟨Nat.le_trans (hq e).1 hs,fun b hb=>(hG2 b (Nat.lt_of_lt_of_le hb (hq e).1)).trans ((hq e).2 b hb)⟩⟩
  |bad=>exact absurd rfl (oO _ List.mem_cons_self)
theorem Fb:∀{es:List dU} {j:Nat},cD bs i .pure j es=true
 |[],_=>rfl
 |e::es,j=>by simp only[cD,Bool.and_eq_true];exact⟨by cases e<;>rfl,Fb⟩
theorem Ba {g g':ae} (W:Wf g):∀{es:List dU} {j:Nat},cD bs i (.alloc g g') j es=true
 |[],_=>rfl
 |e::es,j=>by
  simp only[cD,Bool.and_eq_true];exact⟨by cases e<;>first|rfl |exact wU W _,Ba W⟩
theorem gm:∀{ls:List VN} {es:List dU} {ρ:Gh} {F:Nat→Prop} {o:Ob} {h:ae} {j:Nat},uJ oF ρ F o h ls es→fG bs oF j ls=true→lR bs j es=true
 |_,_,ρ,F,_,h,j,.nil _,_=>rfl
 |_,_,ρ,F,o,h,j,.cons (h':=h') (l:=l) (e:=e) (ls:=ls) hl hw hs hF db SZ m9 bV hr,hd=>by
  have oO:=te hd;have cV:∀l∈ls,l.1≠ .bad:=fun l hl=>oO l (List.mem_cons_of_mem _ hl);simp only[lR,Bool.and_eq_true];cases hl with
  |pure=>exact⟨⟨rfl,Fb⟩,gm hr hd⟩
  |alloc=>exact⟨⟨rfl,Ba hw⟩,gm hr hd⟩
  |JE bE hh hFq hc hn=>subst hh;exact⟨⟨by simp only[ml,a7];exact yl hw hn,U5 hc hr cV (hF _ hFq) hn⟩,gm hr hd⟩
  |lM bE hh hy hb hn=>
   subst hh;simp only[fG,Bool.and_eq_true]at hd;refine⟨⟨by simp only[ml,a7];exact yl hw hn,pr hr cV hd.1 fun _=>?_⟩,gm hr hd.2⟩;obtain⟨⟨y',r1⟩,r2,_⟩:=bE _ _ hy (by simp);exact⟨⟨y',r1⟩,by unfold A0 at hb ⊢;rw[r2];exact hb,hn⟩
  |Ag bE hh hy hb hx fN=>
   rename_i nn pp bb vv xx yy;subst hh;simp only[fG,Bool.and_eq_true]at hd;have hn:lX (.cells false _ _ 1) _:=⟨_,fN,hx.DV.1⟩;refine⟨⟨by simp only[ml,a7];exact yl hw hn,jc (x:=xx) hr cV hd.1 fun _=>?_⟩,gm hr hd.2⟩;obtain⟨⟨y',r1⟩,r2,_⟩:=bE _ _ hy (by simp);exact⟨⟨y',r1⟩,m9 _ _ hb,fN,hx.bw m9⟩
  |dr bE=>
   simp only[fG,Bool.and_eq_true]at hd;refine⟨⟨by simp only[ml,aT];exact hs,jA hr cV hd.1 (by rw[hr.next.1];exact OU bV hr.next.2 m9) fun m hm S5=>?_⟩,gm hr hd.2⟩;obtain⟨y,hy⟩:=yk hm;obtain⟨⟨y',r1⟩,r2,r3⟩:=bE m y hy S5;refine⟨⟨y',r1⟩,fun b hb=>?_⟩;have cp:A0 ρ m b:=by unfold A0 at hb ⊢;rw[←r2];exact hb
   obtain⟨b1,b2⟩:=r3 b cp;exact⟨SZ m y b hy cp,b1,b2,b1,b2⟩
  |oJ bE hh=>
   subst hh;simp only[fG,Bool.and_eq_true]at hd;exact⟨⟨by simp only[ml,aT];exact hs,nZ hr cV hd.1⟩,gm hr hd.2⟩
  |oK bE hG=>
   simp only[fG,Bool.and_eq_true,Bool.or_eq_true]at hd;refine⟨⟨by simp only[ml,aT];exact hs,?_⟩,gm hr hd.2⟩;rcases hd.1 with G1|G1
   ·exact od hw hG hr cV G1 fun _=>⟨hs,hG⟩
   ·refine jA hr cV G1 (by rw[hr.next.1];exact OU bV hr.next.2 m9) fun m hm S5=>?_;obtain⟨y,hy⟩:=yk hm;obtain⟨⟨y',r1⟩,r2,r3⟩:=bE m y hy S5;refine⟨⟨y',r1⟩,fun b hb=>?_⟩;have cp:A0 ρ m b:=by unfold A0 at hb ⊢;rw[←r2];exact hb
    obtain⟨b1,b2⟩:=r3 b cp;exact⟨SZ m y b hy cp,b1,b2,b1,b2⟩
  |bad=>exact absurd rfl (oO _ List.mem_cons_self)
end
section
variable {T E:Env} {X:Cx} {ρ:Gh} {F:Nat→Prop} {o:Ob} {c n:Nat} {af:AF} {f:Fr} {h:ae} {ops:List Oper}
theorem uK (p:Nat×TV) (f:Fr) (t:Nat):rP (p::f) t=if p.1=t then p.2 else rP f t:=by
 show(match Nat.beq p.1 t with|true=>p.2|false=>rP f t)=_;rw[EE];by_cases h:p.1=t<;>simp[h]
theorem wV {d:Option Tmp} {v:TV} {x:Value} {K:Fr→Prop} (hw:sS d n v f K) (S:dE c ρ F h f af) (hn:af.n=n) (hv:VR c ρ F h v x):∃f',K f'∧dE c ρ F h f' (af.put d x)∧(af.put d x).n=n:=by
 unfold sS at hw;cases d with
 |none=>exact⟨f,hw,S,hn⟩
 |some t=>
  simp only at hw;split at hw
  ·rename_i ht;rw[a7]at ht;refine⟨_,hw,fun u=>?_,by rw[AF.UA];exact hn⟩;rw[uK];show VR c ρ F h _ ((af.set t x).get u);rw[AF.jm];by_cases e:t=u
   ·subst e;rw[if_pos rfl,if_pos ⟨rfl,om⟩];exact hv
   ·rw[if_neg e,if_neg (fun e2=>e e2.1.symm)];exact S u
  ·exact hw.elim
theorem Bb {p:Oper} {K1 K2:Prop} (hw:pg ops p f K1 K2) (S:dE c ρ F h f af):(wanted ops p af=true∧K1)∨(wanted ops p af=false∧K2):=by
 unfold pg at hw;unfold wanted;split at hw
 ·rename_i hg;rw[hg];exact .inl ⟨rfl,hw⟩
 ·rename_i j want hg;rw[hg];simp only
  split at hw
  ·exact hw.elim
  ·rename_i q hq;rw[hq];simp only[Option.bind_some];split at hw
   ·exact hw.elim
   ·rename_i t ht;rw[ht];simp only
    split at hw
    ·rename_i b hb;have:=S t;rw[hb]at this;rw[this.dn.1];simp only
     cases b<;>cases want<;>simp only at hw<;>simp[hw]
    ·rename_i hb;have:=S t;rw[hb]at this;obtain⟨a,ha,hl⟩:=this.CS;rw[ha];exact .inr ⟨rfl,hw⟩
    ·exact hw.elim
theorem Dc (L:ct T E) (NX:HY E X) {K:RK}:∀(rest:List Oper) {ρ:Gh} {F:Nat→Prop} {o:Ob} {c:Nat} {f:Fr} {af:AF} {h:ae},EC T (VC E) n ops rest f o c K→Mem X ρ F o c h→dE c ρ F h f af→af.n=n→
 ∃n0 wx h' f' o' c' ρ' F',(∀m,n0≤m→rz E X.base (g9 E X.base m) (gT X.base (aV E X.base m)) ops rest af h=some (wx,h'))∧K f' o' c'∧Nx X ρ F o c h ρ' F' o' c' h'∧dE c' ρ' F' h' f' wx∧wx.n=n
 |[],ρ,F,o,c,f,af,h,hw,H,S,hn=>⟨0,af,h,f,o,c,ρ,F,fun m _=>rfl,hw,.refl H,S,hn⟩
 |p::rest,ρ,F,o,c,f,af,h,hw,H,S,hn=>by
  simp only[EC]at hw;rcases Bb hw S with⟨qS,hw⟩|⟨qS,hw⟩
  ·obtain⟨n1,r,v,o1,c1,im,F1,lg,h1,h2,N,hv,_⟩:=OT L NX H S hw;have S1:dE c1 im F1 r.h f af:=fun t=>N.bw _ _ (S t);obtain⟨f1,h3,S2,E2⟩:=wV h2 S1 hn hv;obtain⟨n2,wx,h',f',o',c',ρ',F',k1,k2,N2,k3,k4⟩:=Dc L NX rest h3 N.mem S2 E2;refine⟨max n1 n2,wx,h',f',o',c',ρ',F',fun m hm=>?_,k2,⟨N2.mem,fun t x hx=>N2.bw t x (N.bw t x hx),Nat.le_trans N.size N2.size,fun b hb=>N2.FF b (N.FF b hb),fun b cs hb hr=>N2.db b cs (N.FF b hb) (N.db b cs hb hr)⟩,k3,k4⟩;unfold rz;rw[qS];simp only
   rw[h1 m om];simp only[Option.bind_some];exact k1 m om
  ·obtain⟨f1,h3,S2,E2⟩:=wV hw S hn (show VR _ _ _ _ (.c4 []) undef from .c4 rfl fun i t v h=>by simp at h);obtain⟨n2,wx,h',f',o',c',ρ',F',k1,k2,N2,k3,k4⟩:=Dc L NX rest h3 H S2 E2;refine⟨n2,wx,h',f',o',c',ρ',F',fun m hm=>?_,k2,N2,k3,k4⟩;unfold rz;rw[qS];exact k1 m hm
theorem yq (L:ct T E) (NX:HY E X) {K:List VN→RK}:∀(rest:List Oper) {ρ:Gh} {F:Nat→Prop} {o:Ob} {c:Nat} {f:Fr} {af:AF} {h:ae} {lg:List VN},sU T (VC E) n ops rest f o c lg K→Mem X ρ F o c h→dE c ρ F h f af→af.n=n→
 ∃n0 wx h' es f' o' c' ρ' F' ls,(∀m,n0≤m→jG E X.base (g9 E X.base m) (gT X.base (aV E X.base m)) ops rest af h=some (wx,h',es))∧K (lg++ls) f' o' c'∧Nx X ρ F o c h ρ' F' o' c' h'∧dE c' ρ' F' h' f' wx∧wx.n=n∧
  uJ o' ρ F o h ls es
 |[],ρ,F,o,c,f,af,h,lg,hw,H,S,hn=>⟨0,af,h,[],f,o,c,ρ,F,[],fun m _=>rfl,by simpa[sU]using hw,.refl H,S,hn,.nil H.Db⟩
 |p::rest,ρ,F,o,c,f,af,h,lg,hw,H,S,hn=>by
  simp only[sU]at hw;rcases Bb hw S with⟨qS,hw⟩|⟨qS,hw⟩
  ·obtain⟨n1,r,v,o1,c1,im,F1,l,h1,h2,N,hv,lP⟩:=OT L NX H S hw;have S1:dE c1 im F1 r.h f af:=fun t=>N.bw _ _ (S t);obtain⟨f1,h3,S2,E2⟩:=wV h2 S1 hn hv;obtain⟨n2,wx,h',es,f',o',c',ρ',F',ls,k1,k2,N2,k3,k4,k5⟩:=yq L NX rest h3 N.mem S2 E2
   refine⟨max n1 n2,wx,h',r.log::es,f',o',c',ρ',F',(l,o)::ls,fun m hm=>?_,by simpa using k2,⟨N2.mem,fun t x hx=>N2.bw t x (N.bw t x hx),Nat.le_trans N.size N2.size,fun b hb=>N2.FF b (N.FF b hb),fun b cs hb hr=>N2.db b cs (N.FF b hb) (N.db b cs hb hr)⟩,k3,k4,
    .cons lP H.wf N.size N.FF N.db (fun m y b hy hb=>H.live hy hb) (fun k b hk=>by cases N.bw _ _ (VR.mp (c:=c) (F:=F) (h:=h) hk)with|mp h'=>exact h') H.Db k5⟩
   unfold jG;rw[qS];simp only
   rw[h1 m om];simp only[Option.bind_some];rw[k1 m om];rfl
  ·obtain⟨f1,h3,S2,E2⟩:=wV hw S hn (show VR _ _ _ _ (.c4 []) undef from .c4 rfl fun i t v h=>by simp at h);obtain⟨n2,wx,h',es,f',o',c',ρ',F',ls,k1,k2,N2,k3,k4,k5⟩:=yq L NX rest h3 H S2 E2;refine⟨n2,wx,h',.pure::es,f',o',c',ρ',F',(.pure,o)::ls,fun m hm=>?_,by simpa using k2,N2,k3,k4,.cons (.pure (.refl _) rfl) H.wf (Nat.le_refl _) (fun _ h=>h) (fun _ _ _ hr=>hr) (fun m y b hy hb=>H.live hy hb) (fun _ _ h=>h) H.Db k5⟩;unfold jG;rw[qS];simp only
   rw[k1 m hm];rfl
end
section
variable {T E:Env} {X:Cx} {n:Nat}
theorem OV {ids:List (Option Nat)} {o:Ob} {f f1:Fr} {t:Nat} (L:YF ids o f f1):ZH ids o (rP f t) (rP f1 t)∨rP f1 t= .j:=by
 induction L with
 |nil=>exact .inr rfl
 |cons h _ ih=>
  rw[uK];split
  ·rename_i e;subst e;exact .inl h
  ·exact ih
theorem adapt {ρ:Gh} {F:Nat→Prop} {o:Ob} {c:Nat} {f:Fr} {af:AF} {h:ae} (H:Mem X ρ F o c h) (S:dE c ρ F h f af) {sh:List Nat} {ids:List (Option Nat)} {U:List Nat} {f1:Fr} {o1:Ob} (hi:(iA c ids&&pd X.c0 0 ids&&mC ids U)=true)
 (hf:YF ids (cH sh o) f f1) (ho:JH ids (cH sh o) U o1):∃ρ' F',Mem X ρ' F' o1 ids.length h∧dE ids.length ρ' F' h f1 af:=by
 simp only[Bool.and_eq_true]at hi;obtain⟨F1,S1⟩:=jQ H sh;refine⟨_,F1,S1.mem.le hi.1.1 hi.1.2 hi.2 ho,fun t=>?_⟩;rcases OV (t:=t) hf with h1|h1
 ·exact qe S1.mem _ _ _ h1 (S1.bw _ _ (S t))
 ·rw[h1];exact .j _
def na (E:Env) (base:Nat) (code:Code) (af:AF) (h:ae) (r:Ex×AF×ae):Prop:=∃n0,∀m,n0≤m→aV E base m code af h=some r
def Comes (E:Env) (X:Cx) (n:Nat) (code:Code) (af:AF) (h:ae) (Q:CK):Prop:=
 ∃ex wx h' f' o' c' ρ' F',na E X.base code af h (ex,wx,h')∧Q ex f' o' c'∧Mem X ρ' F' o' c' h'∧dE c' ρ' F' h' f' wx∧wx.n=n
theorem na.adB {a b:Code} {af oC:AF} {h h1:ae} {r:Ex×AF×ae} {base:Nat} (A:na E base a af h (.normal,oC,h1)) (B:na E base b oC h1 r):na E base (.seq a b) af h r:=by
 obtain⟨n1,A⟩:=A;obtain⟨n2,B⟩:=B;refine⟨max n1 n2+1,fun m hm=>?_⟩;obtain⟨k,rfl⟩:∃k,m=k+1:=⟨m - 1,om⟩;simp only[aV];rw[A k om];exact B k om
theorem na.aah {a b:Code} {af oC:AF} {h h1:ae} {ex:Ex} {base:Nat} (A:na E base a af h (ex,oC,h1)) (hx:ex≠ .normal):na E base (.seq a b) af h (ex,oC,h1):=by
 obtain⟨n1,A⟩:=A;refine⟨n1+1,fun m hm=>?_⟩;obtain⟨k,rfl⟩:∃k,m=k+1:=⟨m - 1,om⟩;simp only[aV];rw[A k om];cases ex<;>first|rfl |exact absurd rfl hx
theorem na.U7 {b:Code} {af oC:AF} {h h1:ae} {r:Ex×AF×ae} {base:Nat} (A:na E base b af h (.normal,oC,h1)) (B:na E base (.loop b) oC h1 r):na E base (.loop b) af h r:=by
 obtain⟨n1,A⟩:=A;obtain⟨n2,B⟩:=B;refine⟨max n1 n2+1,fun m hm=>?_⟩;obtain⟨k,rfl⟩:∃k,m=k+1:=⟨m - 1,om⟩;simp only[aV];rw[A k om];exact B k om
theorem na.J2 {b:Code} {af oC:AF} {h h1:ae} {ex:Ex} {base:Nat} (A:na E base b af h (ex,oC,h1)) (hx:ex≠ .normal):na E base (.loop b) af h (ex,oC,h1):=by
 obtain⟨n1,A⟩:=A;refine⟨n1+1,fun m hm=>?_⟩;obtain⟨k,rfl⟩:∃k,m=k+1:=⟨m - 1,om⟩;simp only[aV];rw[A k om];cases ex<;>first|rfl |exact absurd rfl hx
theorem na.one {c:Code} {af:AF} {h:ae} {r:Ex×AF×ae} {base:Nat} (hx:∀k,aV E base (k+1) c af h=some r):na E base c af h r:=
 ⟨1,fun m hm=>by obtain⟨k,rfl⟩:∃k,m=k+1:=⟨m - 1,om⟩;exact hx k⟩
theorem qn {ρ:Gh} {F:Nat→Prop} {o:Ob} {c:Nat} {f:Fr} {af:AF} {h:ae} {K:RK} (H:Mem X ρ F o c h) (S:dE c ρ F h f af) (ht:iX X.c0 f o c K):∃f1 o1 c1 ρ' F',K f1 o1 c1∧Mem X ρ' F' o1 c1 h∧dE c1 ρ' F' h f1 af:=by
 obtain⟨sh,ids,U,f1,o1,⟨hf,ho,hi⟩,hK⟩:=ht;obtain⟨ρ',F',H',S'⟩:=adapt H S hi hf ho;exact⟨f1,o1,_,ρ',F',hK,H',S'⟩
theorem aai {du:List Nat} (L:ct T E) (NX:HY E X):∀(code:Code) {ρ:Gh} {F:Nat→Prop} {o:Ob} {c:Nat} {f:Fr} {af:AF} {h:ae} {Q:CK},wp T (VC E) n X.c0 du code f o c Q→Mem X ρ F o c h→dE c ρ F h f af→af.n=n→Comes E X n code af h Q:=by
 intro code
 induction code with
 |skip=>intro ρ F o c f af h Q hw H S hn;exact⟨.normal,af,h,f,o,c,ρ,F,.one fun k=>rfl,hw,H,S,hn⟩
 |exit id=>intro ρ F o c f af h Q hw H S hn;exact⟨.exit id,af,h,f,o,c,ρ,F,.one fun k=>rfl,hw,H,S,hn⟩
 |ret=>intro ρ F o c f af h Q hw H S hn;exact⟨.ret,af,h,f,o,c,ρ,F,.one fun k=>rfl,hw,H,S,hn⟩
 |region id ops draw=>
  intro ρ F o c f af h Q hw H S hn;simp only[wp]at hw;cases draw with
  |false=>
   obtain⟨n0,wx,h',f',o',c',ρ',F',k1,k2,N,k3,k4⟩:=Dc L NX ops.toList hw H S hn;refine⟨.normal,wx,h',f',o',c',ρ',F',⟨n0+1,fun m hm=>?_⟩,k2,N.mem,k3,k4⟩;obtain⟨k,rfl⟩:∃k,m=k+1:=⟨m - 1,om⟩;simp only[aV,kl];have:=k1 k om;unfold g9 at this;rw[this];rfl
  |true=>
   simp only at hw;split at hw
   ·rename_i bN;obtain⟨n0,wx,h',es,f',o',c',ρ',F',ls,k1,k2,N,k3,k4,k5⟩:=yq L NX ops.toList hw H S hn;simp only[List.nil_append]at k2;split at k2
    ·rename_i hd;refine⟨.normal,wx,h',f',o',c',ρ',F',⟨n0+1,fun m hm=>?_⟩,k2,N.mem,k3,k4⟩;obtain⟨k,rfl⟩:∃k,m=k+1:=⟨m - 1,om⟩;simp only[aV,kl];have:=k1 k om;unfold g9 at this;rw[hn,bN,this];simp only[bI,Option.bind_some];rw[gm k5 hd]
    ·exact k2.elim
   ·exact hw.elim
 |seq a b iha ihb=>
  intro ρ F o c f af h Q hw H S hn;simp only[wp]at hw;obtain⟨ex,oC,h1,f1,o1,c1,im,F1,r1,q1,H1,S1,n1⟩:=iha hw H S hn;cases ex with
  |normal=>
   obtain⟨Ww,af2,h2,f2,o2,c2,YP,F2,r2,q2,H2,S2,n2⟩:=ihb q1 H1 S1 n1;exact⟨Ww,af2,h2,f2,o2,c2,YP,F2,r1.adB r2,q2,H2,S2,n2⟩
  |exit id=>exact⟨.exit id,oC,h1,f1,o1,c1,im,F1,r1.aah (by simp),q1,H1,S1,n1⟩
  |ret=>exact⟨.ret,oC,h1,f1,o1,c1,im,F1,r1.aah (by simp),q1,H1,S1,n1⟩
 |cond q t e iht ihe=>
  intro ρ F o c f af h Q hw H S hn;simp only[wp]at hw;split at hw
  ·exact hw.elim
  ·rename_i kG;obtain⟨v,h1,h2⟩:=qh (E:=E) L ((NX.now H).sub L) S kG;split at hw
   ·rename_i b hb;rw[hb]at h2;have:=h2.dn.1;subst this;have key:∀{x:Code} {r:Ex×AF×ae},na E X.base x af h r→(∀k,aV E X.base (k+1) (.cond q t e) af h=aV E X.base k x af h)→na E X.base (.cond q t e) af h r:=by
     rintro x r ⟨n0,hr⟩ hk;refine⟨n0+1,fun m hm=>?_⟩;obtain⟨k,rfl⟩:∃k,m=k+1:=⟨m - 1,om⟩;rw[hk];exact hr k om
    split at hw
    ·obtain⟨ex,oC,wH,f1,o1,c1,im,F1,r1,q1,H1,S1,n1⟩:=iht hw H S hn;exact⟨ex,oC,wH,f1,o1,c1,im,F1,key r1 fun k=>by simp only[aV,h1,Option.bind_some,Nq],q1,H1,S1,n1⟩
    ·obtain⟨ex,oC,wH,f1,o1,c1,im,F1,r1,q1,H1,S1,n1⟩:=ihe hw H S hn;exact⟨ex,oC,wH,f1,o1,c1,im,F1,key r1 fun k=>by simp only[aV,h1,Option.bind_some,Nq],q1,H1,S1,n1⟩
   ·exact hw.elim
 |block id b ih=>
  intro ρ F o c f af h Q hw H S hn;simp only[wp]at hw
  have key:∀{n0:Nat} {Ww:Ex} {oC:AF} {h1:ae},(∀k,n0≤k→aV E X.base (k+1) (.block id b) af h=some (Ww,oC,h1))→na E X.base (.block id b) af h (Ww,oC,h1):=fun {n0} {Ww} {oC} {h1} hk=>
   ⟨n0+1,fun m hm=>by obtain⟨k,rfl⟩:∃k,m=k+1:=⟨m - 1,om⟩;exact hk k om⟩
  split at hw
  ·obtain⟨ex,oC,h1,f1,o1,c1,im,F1,⟨n0,r1⟩,q1,H1,S1,n1⟩:=ih hw H S hn;cases ex with
   |normal=>exact⟨.normal,oC,h1,f1,o1,c1,im,F1,key (n0:=n0) fun k hk=>by simp only[aV,r1 k hk],q1,H1,S1,n1⟩
   |ret=>exact⟨.ret,oC,h1,f1,o1,c1,im,F1,key (n0:=n0) fun k hk=>by simp only[aV,r1 k hk],q1,H1,S1,n1⟩
   |exit ow=>
    simp only at q1;split at q1
    ·rename_i Wx;exact⟨.normal,oC,h1,f1,o1,c1,im,F1,key (n0:=n0) fun k hk=>by simp only[aV,r1 k hk,Wx,cond_true],q1,H1,S1,n1⟩
    ·rename_i Wx;exact⟨.exit ow,oC,h1,f1,o1,c1,im,F1,key (n0:=n0) fun k hk=>by simp only[aV,r1 k hk,Wx,cond_false],q1,H1,S1,n1⟩
  ·obtain⟨Ni,hw,aan⟩:=hw;obtain⟨ex,oC,h1,f1,o1,c1,im,F1,⟨n0,r1⟩,q1,H1,S1,n1⟩:=ih hw H S hn;cases ex with
   |normal=>
    obtain⟨f2,o2,c2,YP,F2,hM,H2,S2⟩:=qn H1 S1 q1;exact⟨.normal,oC,h1,f2,o2,c2,YP,F2,key (n0:=n0) fun k hk=>by simp only[aV,r1 k hk],aan _ _ _ hM,H2,S2,n1⟩
   |ret=>exact⟨.ret,oC,h1,f1,o1,c1,im,F1,key (n0:=n0) fun k hk=>by simp only[aV,r1 k hk],q1,H1,S1,n1⟩
   |exit ow=>
    simp only at q1;split at q1
    ·rename_i Wx;obtain⟨f2,o2,c2,YP,F2,hM,H2,S2⟩:=qn H1 S1 q1;exact⟨.normal,oC,h1,f2,o2,c2,YP,F2,key (n0:=n0) fun k hk=>by simp only[aV,r1 k hk,Wx,cond_true],aan _ _ _ hM,H2,S2,n1⟩
    ·rename_i Wx;exact⟨.exit ow,oC,h1,f1,o1,c1,im,F1,key (n0:=n0) fun k hk=>by simp only[aV,r1 k hk,Wx,cond_false],q1,H1,S1,n1⟩
 |loop b ih=>
  intro ρ F o c f af h Q hw H S hn;simp only[wp]at hw;split at hw;rotate_left
  ·have main:∀(k:Nat) {ρ:Gh} {F:Nat→Prop} {o:Ob} {c:Nat} {f:Fr} {af:AF} {h:ae},AQ (fun f o c Q=>wp T (VC E) n X.c0 du b f o c Q) k f o c Q→Mem X ρ F o c h→dE c ρ F h f af→af.n=n→Comes E X n (.loop b) af h Q:=by
    intro k
    induction k with
    |zero=>intro ρ F o c f af h hw;exact hw.elim
    |succ k ihk=>
     intro ρ F o c f af h hw H S hn;simp only[AQ]at hw;obtain⟨ex,oC,h1,f1,o1,c1,im,F1,r1,q1,H1,S1,n1⟩:=ih hw H S hn;cases ex with
     |normal=>
      obtain⟨ex,af3,h3,f3,o3,c3,ρ3,F3,r3,q3,H3,S3,n3⟩:=ihk q1 H1 S1 n1;exact⟨ex,af3,h3,f3,o3,c3,ρ3,F3,r1.U7 r3,q3,H3,S3,n3⟩
     |exit id=>exact⟨.exit id,oC,h1,f1,o1,c1,im,F1,r1.J2 (by simp),q1,H1,S1,n1⟩
     |ret=>exact⟨.ret,oC,h1,f1,o1,c1,im,F1,r1.J2 (by simp),q1,H1,S1,n1⟩
   exact main 64 hw H S hn
  obtain⟨Inv,⟨k0,hI⟩,aao⟩:=hw;obtain⟨f1,o1,c1,im,F1,hI1,H1,S1⟩:=qn H S hI;have main:∀(k:Nat) {ρ:Gh} {F:Nat→Prop} {o:Ob} {c:Nat} {f:Fr} {af:AF} {h:ae},Inv k f o c→Mem X ρ F o c h→dE c ρ F h f af→af.n=n→Comes E X n (.loop b) af h Q:=by
   intro k
   induction k using Nat.strongRecOn with
   |ind k ihk=>
    intro ρ F o c f af h hI H S hn;obtain⟨ex,oC,h1,f1,o1,c1,im,F1,r1,q1,H1,S1,n1⟩:=ih (aao k f o c hI) H S hn;cases ex with
    |normal=>
     obtain⟨k',ht,aU⟩:=q1;obtain⟨f2,o2,c2,YP,F2,hI2,H2,S2⟩:=qn H1 S1 ht;obtain⟨ex,af3,h3,f3,o3,c3,ρ3,F3,r3,q3,H3,S3,n3⟩:=ihk k' aU hI2 H2 S2 n1;exact⟨ex,af3,h3,f3,o3,c3,ρ3,F3,r1.U7 r3,q3,H3,S3,n3⟩
    |exit id=>exact⟨.exit id,oC,h1,f1,o1,c1,im,F1,r1.J2 (by simp),q1,H1,S1,n1⟩
    |ret=>exact⟨.ret,oC,h1,f1,o1,c1,im,F1,r1.J2 (by simp),q1,H1,S1,n1⟩
  exact main k0 hI1 H1 S1 hn
 |_=>intro ρ F o c f af h Q hw H S hn;exact hw.elim
end
section
variable {T E:Env} {X:Cx} {ρ:Gh} {F:Nat→Prop} {o:Ob} {c n:Nat} {f:Fr} {af:AF} {h:ae}
theorem rW:∀(l:List Value) (i:Nat) (f:AF) (t:Nat),(AF.oS l i f).get t=(if i≤t∧t<i+l.length∧t<f.n then(match l[t - i]? with|some v=>v|none=>undef)else f.get t)∧(AF.oS l i f).n=f.n
 |[],i,f,t=>by
  refine⟨?_,rfl⟩;rw[if_neg (by simp only[List.length_nil];omega)];rfl
 |v::l,i,f,t=>by
  simp only[AF.oS];obtain⟨h1,h2⟩:=rW l (i+1) (f.set i v) t;rw[AF.Nv]at h1 h2;refine⟨?_,h2⟩;rw[h1];by_cases hx:i+1≤t∧t<i+1+l.length∧t<f.n
  ·rw[if_pos hx,if_pos (by simp only[List.length_cons];omega)];have:t - i=(t - (i+1))+1:=by omega
   rw[this,List.getElem?_cons_succ]
  ·rw[if_neg hx,AF.jm];by_cases e:t=i
   ·subst e;by_cases hn:t<f.n
    ·rw[if_pos ⟨rfl,hn⟩,if_pos (by simp only[List.length_cons];omega)];simp
    ·rw[if_neg (fun h=>hn h.2),if_neg om]
   ·rw[if_neg (fun h=>e h.1),if_neg (by simp only[List.length_cons];omega)]
theorem Bc:∀(l:List TV) (i t:Nat),rP (qU i l) t=if i≤t then(match l[t - i]? with|some v=>v|none=>.j)else .j
 |[],i,t=>by simp[qU,rP]
 |v::l,i,t=>by
  simp only[qU];rw[uK,Bc l (i+1) t];by_cases e:i=t
  ·subst e;simp
  ·rw[if_neg e];by_cases hx:i+1≤t
   ·rw[if_pos hx,if_pos om];have:t - i=(t - (i+1))+1:=by omega
    rw[this,List.getElem?_cons_succ]
   ·rw[if_neg hx];by_cases hy:i≤t
    ·omega
    ·rw[if_neg hy]
theorem Fc {args:List TV} {b7:List Value} (H:dF c ρ F h args b7) (hn:args.length≤n):dE c ρ F h (qU 0 args) (AF.enter b7 n)∧(AF.enter b7 n).n=n:=by
 refine⟨fun t=>?_,(rW b7 0 _ 0).2⟩;rw[Bc,if_pos (Nat.zero_le _)];cases ht:args[t - 0]? with
 |none=>exact .j _
 |some v=>
  simp only
  have aU:=(List.getElem?_eq_some_iff.1 ht).1;obtain⟨x,hx⟩:∃x,b7[t - 0]? =some x:=⟨_,List.getElem?_eq_getElem (by rw[←H.1];exact aU)⟩;have:=(rW b7 0 ⟨.nil,n⟩ t).1;unfold AF.enter;rw[this,if_pos ⟨Nat.zero_le _,by rw[←H.1];omega,by simp only;omega⟩,hx];exact H.2 _ _ _ ht hx
theorem yr (L:ct T E) (H:Mem X ρ F o c h) (S:dE c ρ F h f af):∀{rs:List ResultVar} {vs:List TV},ED T f o rs=some vs→∃xs,dQ E h af rs=some xs∧dF c ρ F h vs xs
 |[],vs,hv=>by simp[ED]at hv;subst hv;exact⟨[],rfl,.nil⟩
 | .tmp t::l,vs,hv=>by
  unfold ED at hv;split at hv
  ·rename_i ws hws;cases hv;obtain⟨xs,h1,h2⟩:=yr L H S hws;exact⟨_,by simp[dQ,h1],.cons (S t) h2⟩
  ·cases hv
 | .cell a t::l,vs,hv=>by
  unfold ED at hv;split at hv
  ·rename_i m q agg n ha hs;split at hv
   ·rename_i cs hl;split at hv
    ·rename_i w hw;split at hv
     ·rename_i v ws qJ hws oA;cases hv;obtain⟨xs,h1,h2⟩:=yr L H S hws;obtain⟨Sm,hO⟩:=H.b9 hl;have hp:=S a;rw[ha]at hp;cases hO with
      |cells hb hg zU hc=>
       rename_i Sq b ba cs';cases hE:af.get a with
       |pointer p=>
        rw[hE]at hp;cases hp with
        |ptr cp=>
         rw[hb]at cp;cases cp;rw[bm]at hw;obtain⟨w1,rfl⟩:=hw;obtain⟨S1,S2,S3,_,a1,a2,a3⟩:=hc.part q n;obtain⟨k2,_⟩:=a2.US (fun t v hv hf=>hv.dp hf) oA;have k1:takeN n (cs'.drop q)=some ((cs'.drop q).take n):=by
          rw[bm];have:=hc.len;simp only[List.length_drop]at w1 ⊢;exact⟨om,trivial⟩
         obtain⟨x,k3,k4⟩:=fV qJ k2;have JT:M.al h b q n=some ((cs'.drop q).take n):=by
          unfold M.al;rw[eK (cB hg hg) zU (aR hg)];exact k1
         exact⟨x::xs,by simp[dQ,hE,iS,L.shape hs,JT,k3,h1],.cons k4 h2⟩
       |_=>rw[hE]at hp;cases hp
     ·cases hv
    ·cases hv
   ·cases hv
  ·cases hv
theorem S7 {vs:List TV} {xs:List Value} (H:dF c ρ F h vs xs):VR c ρ F h (V6 vs) (dR xs):=by
 match vs,xs,H with
 |[],xs,H=>rw[H.bC];exact .iB .nil
 |[v],xs,H=>
  obtain⟨x,m,rfl,h1,h2⟩:=H.aL;rw[h2.bC];exact h1
 |v::w::l,xs,H=>
  obtain⟨x,m,rfl,h1,h2⟩:=H.aL;obtain⟨y,m',rfl,h3,h4⟩:=h2.aL;exact .iB (by simpa using dF.cons h1 (.cons h3 h4))
theorem VC.OW (L:ct T E) {g:FuncId} {fn:Func} {code:Code} {c0:Nat} {args:List TV} {o0:Ob} {R:TV→Ob→Nat→Prop} (hf:E.func g=some fn)
 (ho:∀base ρ F h S b7,Mem (HX base ρ F o0 c0 h S) ρ F o0 c0 h→dF c0 ρ F h args b7→E.qD base g b7 h=none) (hb:fn.body=some code) (hlen:Nat.ble args.length fn.ntmps=true)
 (du:List Nat) (hw:wp T (VC E) fn.ntmps c0 du code (qU 0 args) o0 c0 (Lg T c0 fn.results.toList R)):VC E g c0 args o0 R:=by
 intro base ρ F h S0 b7 HN H HO OX;obtain⟨S,hn⟩:=Fc OX (aT.1 hlen);obtain⟨ex,wx,h',f',o',c',ρ',F',⟨n0,hr⟩,hq,M',S',KT⟩:=aai (X:=HX base ρ F o0 c0 h S0) L HN code hw H S hn;unfold Lg at hq
 have fin:∀{vs:List TV} {sh:List Nat} {ids:List (Option Nat)} {U:List Nat} {r:TV} {o1:Ob},(ex= .normal∨ex= .ret)→ED T f' o' fn.results.toList=some vs→(iA c' ids&&pd c0 0 ids&&mC ids U)=true→ZH ids (cH sh o') (V6 vs) r→JH ids (cH sh o') U o1→R r o1 ids.length→
  ∃n v h2 ρ' F' r o' c',g9 E base n g b7 h=some (v,h2)∧R r o' c'∧Mem (HX base ρ F o0 c0 h S0) ρ' F' o' c' h2∧VR c' ρ' F' h2 r v:=by
  intro vs sh ids U r o1 hex Ng hi hle hO hR;simp only[Bool.and_eq_true]at hi;obtain⟨xs,k1,k2⟩:=yr L M' S' Ng;obtain⟨F1,S1⟩:=jQ M' sh;have M2:=S1.mem.le hi.1.1 hi.1.2 hi.2 hO;refine⟨n0,dR xs,h',_,F1,r,o1,ids.length,?_,hR,M2,qe S1.mem _ _ _ hle (S1.bw _ _ (S7 k2))⟩;unfold g9 fE;rw[hf];simp only[Option.bind_some,ho _ _ _ _ _ _ H OX,hb,←OX.1,hlen,bI];have mR:=hr n0 (Nat.le_refl _);have Nd:aV E base n0 code (AF.enter b7 fn.ntmps) h=some (ex,wx,h'):=mR;rw[Nd];rcases hex with rfl |rfl<;>simp[k1]
 cases ex with
 |exit id=>exact hq.elim
 |normal=>
  simp only at hq;split at hq
  ·rename_i vs Ng;obtain⟨sh,ids,U,r,o1,⟨hle,hO,hi⟩,hR⟩:=hq;exact fin (.inl rfl) Ng hi hle hO hR
  ·exact hq.elim
 |ret=>
  simp only at hq;split at hq
  ·rename_i vs Ng;obtain⟨sh,ids,U,r,o1,⟨hle,hO,hi⟩,hR⟩:=hq;exact fin (.inr rfl) Ng hi hle hO hR
  ·exact hq.elim
theorem VC.enter (L:ct T E) {g:FuncId} {fn:Func} {code:Code} {c0:Nat} {args:List TV} {o0:Ob} {R:TV→Ob→Nat→Prop} (hf:E.func g=some fn) (ho:∀b a,E.qD b g a=fun _=>none) (hb:fn.body=some code) (hlen:Nat.ble args.length fn.ntmps=true)
 (du:List Nat) (hw:wp T (VC E) fn.ntmps c0 du code (qU 0 args) o0 c0 (Lg T c0 fn.results.toList R)):VC E g c0 args o0 R:=
 VC.OW L hf (fun _ _ _ _ _ _ _ _=>congrFun (ho _ _) _) hb hlen du hw
theorem VC.mono {g:FuncId} {c0:Nat} {args:List TV} {o0:Ob} {R R':TV→Ob→Nat→Prop} (H:VC E g c0 args o0 R) (hR:∀r o c,R r o c→R' r o c):VC E g c0 args o0 R':=by
 intro base ρ F h S b7 hN hM hO hA;obtain⟨n,v,h',ρ',F',r,o',c',h1,h2,h3⟩:=H base ρ F h S b7 hN hM hO hA;exact⟨n,v,h',ρ',F',r,o',c',h1,hR _ _ _ h2,h3⟩
theorem VC.qD {g:FuncId} {c0:Nat} {args:List TV} {o0:Ob} {v:Value} (hf:(E.func g).isSome=true) (ho:∀b a h,a.length=args.length→E.qD b g a h=some (v,h)) (hp:az v=true):VC E g c0 args o0 (fun r o c=>r= .s v∧o=o0∧c=c0):=by
 intro base ρ F h S b7 hN hM hO hA;obtain⟨fn,hf⟩:=Option.isSome_iff_exists.1 hf;refine⟨0,v,h,ρ,F,.s v,o0,c0,?_,⟨rfl,rfl,rfl⟩,hM,.s hp⟩;unfold g9 fE;rw[hf];simp only[Option.bind_some,ho _ b7 h hA.1.symm]
end
section
variable {E:Env}
def OY (sub:TypeId→Option (List Nat)) (E:Env):List Field→Nat→Option (List Nat)
 |[],_=>some []
 |f::fs,off=>bI (f.name != "_"&&Nat.beq f.offset off)<|(sub f.type).bind fun ks=>(eO E f.type).bind fun s=>bI (Nat.beq s.2 ks.length)<|(OY sub E fs (off+ks.length)).bind fun r=>some (ks++r)
def YQ (E:Env):Nat→TypeId→Option (List Nat)
 |0,_=>none
 |d+1,t=>(E.desc t).bind fun ds=>match ds with
  | .bool=>some [1]
  | .int k=>some [dV k]
  | .string=>some [2]
  | .struct fields=>bI (E.sr t) (OY (YQ E d) E fields.toList 0)
  |_=>none
def mF:List Nat→List Value→List Value→Option Bool
 |[],[],[]=>some true
 |k::ks,v::l,w::m=>(match Nat.blt 0 k&&Nat.beq (bh v) k&&Nat.beq (bh w) k with
  |true=>(match mF ks l m with|some r=>some (nR v w&&r)|none=>none)
  |false=>none)
 |_,_,_=>none
theorem OZ:∀{zs:List Value} {xs ys:List TV} {r:Bool},mA zs xs ys=some r→mF (zs.map bh) (xs.map Wi) (ys.map Wi)=some r
 |[],[],[],r,h=>by simpa[mA,mF]using h
 |[],[],_::_,r,h=>by simp[mA]at h
 |[],x::l,ys,r,h=>by simp[mA]at h
 |z::zs,[],ys,r,h=>by simp[mA]at h
 |z::zs,x::l,[],r,h=>by cases x<;>simp[mA]at h
 |z::zs,x::l,y::m,r,h=>by
  cases x<;>try(simp[mA]at h;done)
  rename_i v;cases y<;>try(simp[mA]at h;done)
  rename_i w;simp only[mA]at h;simp only[List.map_cons,mF];cases hc:(Nat.blt 0 (bh z)&&Nat.beq (bh v) (bh z)&&Nat.beq (bh w) (bh z))with
  |false=>rw[hc]at h;cases h
  |true=>
   rw[hc]at h;simp only at h;cases hq:mA zs l m with
   |none=>rw[hq]at h;cases h
   |some r'=>
    rw[hq]at h;have kX:(Nat.blt 0 (bh z)&&Nat.beq (bh (Wi (.s v))) (bh z)&&Nat.beq (bh (Wi (.s w))) (bh z))=true:=hc;rw[kX,OZ hq];exact h
theorem vG:∀{ks Wy:List Nat} {l l' m m':List Value},l.length=ks.length→m.length=ks.length→mF (ks++Wy) (l++l') (m++m')=(mF ks l m).bind fun a=>(mF Wy l' m').bind fun b=>some (a&&b)
 |[],Wy,[],l',[],m',_,_=>by simp[mF]
 |k::ks,Wy,v::l,l',w::m,m',h1,h2=>by
  simp only[List.cons_append,mF];rw[vG (by simpa using h1) (by simpa using h2)];split
  ·cases mF ks l m<;>cases mF Wy l' m'<;>simp[Bool.and_assoc]
  ·rfl
 |[],_,_::_,_,_,_,h1,_=>by simp at h1
 |[],_,[],_,_::_,_,_,h2=>by simp at h2
 |_::_,_,[],_,_,_,h1,_=>by simp at h1
 |_::_,_,_::_,_,[],_,_,h2=>by simp at h2
theorem yu:∀{ks:List Nat} {l m:List Value} {r:Bool},mF ks l m=some r→l.length=ks.length∧m.length=ks.length
 |[],[],[],r,_=>⟨rfl,rfl⟩
 |[],[],_::_,r,h=>by simp[mF]at h
 |[],_::_,_,r,h=>by simp[mF]at h
 |_::_,[],_,r,h=>by simp[mF]at h
 |_::_,_::_,[],r,h=>by simp[mF]at h
 |k::ks,v::l,w::m,r,h=>by
  simp only[mF]at h;split at h
  ·split at h
   ·rename_i hq;obtain⟨h1,h2⟩:=yu hq;exact⟨by simp[h1],by simp[h2]⟩
   ·cases h
  ·cases h
def Wz (agg:Bool) (l:List Value):Value:=match agg,l with
 |true,l=>.agg l.toArray
 |false,v::_=>v
 |false,[]=>undef
theorem O0 (k:IntKind):3≤dV k:=by cases k<;>simp[dV]
theorem Fe {k k':IntKind} (h:dV k=dV k'):k=k':=by cases k<;>cases k'<;>simp[dV]at h<;>rfl
theorem O1:∀(d:Nat) {t:TypeId} {ks:List Nat} {l m:List Value} {r:Bool},YQ E d t=some ks→mF ks l m=some r→∃ds,E.desc t=some ds∧
 (∀s,eO E t=some s→s.1=isAgg ds)∧wg E d t (Wz (isAgg ds) l) (Wz (isAgg ds) m)=some r
 |0,t,ks,l,m,r,h,_=>by simp[YQ]at h
 |d+1,t,ks,l,m,r,h,hv=>by
  unfold YQ at h;simp only[Option.bind_eq_some_iff]at h;obtain⟨ds,h1,h2⟩:=h;have hl:=yu hv;have WA:∀{k:Nat},ks=[k]→isAgg ds=false→(∀v w:Value,bh v=k→bh w=k→wg E (d+1) t v w=some (nR v w))→∃ds,E.desc t=some ds∧(∀s,eO E t=some s→s.1=isAgg ds)∧wg E (d+1) t (Wz (isAgg ds) l) (Wz (isAgg ds) m)=some r:=by
   rintro k rfl ha hq;refine⟨ds,h1,fun s hs=>?_,?_⟩
   ·unfold eO at hs;rw[h1]at hs;simp only[Option.bind_some,ha,cond_false,Option.some.injEq]at hs;subst hs;exact ha.symm
   ·rw[ha]
    match l,m,hl with
    |[v],[w],_=>
     simp only[mF]at hv;split at hv
     ·rename_i hc;simp only[Bool.and_eq_true,beq_iff]at hc;simp only[Bool.and_true]at hv;rw[←hv];exact hq v w hc.1.2 hc.2
     ·cases hv
  split at h2
  ·cases h2;refine WA rfl rfl fun v w hk o8=>?_;cases v<;>simp[bh]at hk<;>try(rename_i i _;cases i<;>simp[dV]at hk;done)
   cases w<;>simp[bh]at o8<;>try(rename_i i _;cases i<;>simp[dV]at o8;done)
   simp[wg,h1,nR]
  ·rename_i k;cases h2;refine WA rfl rfl fun v w hk o8=>?_;have hp:=O0 k;cases v<;>simp[bh]at hk<;>try omega
   cases w<;>simp[bh]at o8<;>try omega
   rw[Fe hk,Fe o8];simp[wg,h1,nR]
  ·cases h2;refine WA rfl rfl fun v w hk o8=>?_;cases v<;>simp[bh]at hk<;>try(rename_i i _;cases i<;>simp[dV]at hk;done)
   cases w<;>simp[bh]at o8<;>try(rename_i i _;cases i<;>simp[dV]at o8;done)
   simp[wg,h1,nR]
  ·rename_i fields;rw[aj]at h2;obtain⟨he,hF⟩:=h2;refine⟨_,h1,fun s hs=>?_,?_⟩
   ·unfold eO at hs;rw[h1]at hs;simp only[Option.bind_some,isAgg,cond_true,Option.bind_eq_some_iff]at hs;obtain⟨n,_,h4⟩:=hs;cases h4;rfl
   ·have key:∀(fs:List Field) (off:Nat) (ks:List Nat) (l0 m0 l m:List Value) (r:Bool),OY (YQ E d) E fs off=some ks→l0.length=off→m0.length=off→mF ks l m=some r→G8 (oU E) (wg E d) (l0++l) (m0++m) fs=some r:=by
     intro fs
     induction fs with
     |nil=>
      intro off ks l0 m0 l m r hc _ _ hv;simp[OY]at hc;subst hc;cases l<;>cases m<;>simp[mF]at hv;simp[G8,hv]
     |cons f fs ih=>
      intro off ks l0 m0 l m r hc ue Hg hv;simp only[OY,aj,Bool.and_eq_true,beq_iff,Option.bind_eq_some_iff,Option.some.injEq]at hc;obtain⟨⟨hn,WB⟩,k1,hk1,s,hs,fO,k2,O2,rfl⟩:=hc;obtain⟨uk,Ha⟩:=yu hv;rw[List.length_append]at uk Ha;have el:l=l.take k1.length++l.drop k1.length:=(List.take_append_drop _ _).symm;have em:m=m.take k1.length++m.drop k1.length:=(List.take_append_drop _ _).symm;have tl:(l.take k1.length).length=k1.length:=by simp;omega
      have tm:(m.take k1.length).length=k1.length:=by simp;omega
      rw[el,em,vG tl tm]at hv;simp only[Option.bind_eq_some_iff,Option.some.injEq]at hv;obtain⟨r1,qH,r2,Nd,rfl⟩:=hv;obtain⟨ds',_,aap,SI⟩:=O1 d hk1 qH;generalize isAgg ds'=agg at aap SI;have qa:=aap s hs;have part:∀(x0 x:List Value),x0.length=off→k1.length≤x.length→oU E f.type (x0++x) f.offset=some (Wz agg (x.take k1.length)):=by
       intro x0 x sH hx;unfold oU;rw[hs];simp only[Option.bind_some];rw[WB,←sH,List.drop_left,fO];have ht:takeN k1.length x=some (x.take k1.length):=by rw[bm];exact⟨hx,rfl⟩
       rw[ht,qa];cases agg with
       |true=>rfl
       |false=>
        have:s.2=1:=by
         obtain⟨a,n⟩:=s;simp only at qa;subst qa;unfold eO at hs;simp only[Option.bind_eq_some_iff]at hs;obtain⟨dd,_,h5⟩:=hs;cases ZA:isAgg dd with
         |true=>
          rw[ZA]at h5;simp only[cond_true,Option.bind_eq_some_iff]at h5;obtain⟨_,_,h6⟩:=h5;cases h6
         |false=>rw[ZA]at h5;cases h5;rfl
        have hk:k1.length=1:=by omega
        rw[hk]at hx ⊢
        match x,hx with
        |v::x',_=>simp[cS,Wz]
      simp only[G8,aj];refine⟨hn,?_⟩;rw[part l0 l ue om,part m0 m Hg om];simp only[Option.bind_some,SI];have:=ih (off+k1.length) k2 (l0++l.take k1.length) (m0++m.take k1.length) (l.drop k1.length) (m.drop k1.length) r2 O2 (by rw[List.length_append,ue,tl]) (by rw[List.length_append,Hg,tm]) Nd;rw[List.append_assoc,List.append_assoc,←el,←em]at this;cases r1 with
      |true=>simp only[Bool.true_and];exact this
      |false=>rfl
    have:=key fields.toList 0 ks [] [] l m r hF rfl rfl hv;simp only[List.nil_append]at this;show wg E (d+1) t (.agg l.toArray) (.agg m.toArray)=some r;unfold wg;rw[h1];simp only[Option.bind_some,aj];exact⟨he,this⟩
  ·cases h2
def uL:List Nat→List Nat→Bool
 |[],[]=>true
 |a::l,b::m=>Nat.beq a b&&uL l m
 |_,_=>false
theorem Bd:∀{a b:List Nat},uL a b=true→a=b
 |[],[],_=>rfl
 |[],_::_,h=>by simp[uL]at h
 |_::_,[],h=>by simp[uL]at h
 |x::a,y::b,h=>by
  simp only[uL,Bool.and_eq_true,beq_iff]at h;rw[h.1,Bd h.2]
def Ff (E:Env) (t:TypeId):Bool:=E.sr t&&(match E.desc t,YQ E 100 t,E.zero t with
 |some d,some ks,some (.agg a)=>isAgg d&&uL (a.toList.map bh) ks
 |_,_,_=>false)
theorem kZ {n:Nat}:∀{l:List Nat},iN n l=true→n∈l
 |[],h=>by simp[iN]at h
 |m::l,h=>by
  unfold iN at h;split at h
  ·rename_i e;rw[beq_iff]at e;simp[e]
  ·exact List.mem_cons_of_mem _ (kZ h)
def tES (E:Env) (l st:List Nat):Env:={E with sr:=fun t=>iN t l,still:=fun g=>iN g st}
def tE (E:Env) (l:List Nat):Env:=tES E l []
theorem O3 {l st:List Nat} (hz:∀t z,E.zero t=some z→e8 z=true) (hl:l.all (Ff E)=true) (bN:∀g,iN g st=true→x7 E g):ct (tES E l st) E:=by
 refine⟨fun _ _ h=>h,fun _ _ h=>h,fun _ _ h=>h,fun t z h=>⟨h,hz t z h⟩,fun t a b z xs ys r he hzt hr ha hb=>?_,fun _ _ h=>h,bN⟩;have gj:=List.all_eq_true.1 hl t (kZ he);unfold Ff at gj;simp only[Bool.and_eq_true]at gj;obtain⟨h1,h2⟩:=gj;refine⟨h1,?_⟩;have adH:E.zero t=some z:=hzt;split at h2
 ·rename_i dd ks a0 hd hk D2;simp only[Bool.and_eq_true]at h2;rw[adH,Option.some.injEq]at D2;subst D2;have wJ:=Bd h2.2;have hv:=OZ hr;simp only[Value.cells]at hv;rw[wJ,←ha,←hb]at hv;obtain⟨ds,dI,_,SI⟩:=O1 100 hk hv;rw[hd]at dI;cases dI;rw[h2.1]at SI;simpa[Wz]using SI
 ·cases h2
theorem aaq {l:List Nat} (hz:∀t z,E.zero t=some z→e8 z=true) (hl:l.all (Ff E)=true):ct (tE E l) E:=O3 hz hl fun g h=>by simp[iN]at h
end
def ints (l:List Int):List (List TV):=l.map fun n=>[.s (.int .i64 n)]
inductive Sh where
 |bool
 |int (k:IntKind)
 |str
 |sl (e:List Sh)
mutual
def Fit:Sh→TV→Prop
 | .bool,t=>∃b,t= .s (.bool b)
 | .int k,t=>∃n,k.min≤n∧n≤k.max∧t= .s (.int k n)
 | .str,t=>∃s:ByteArray,s.size≤maxLen∧t= .s (.string s)
 | .sl e,t=>∃es:List (List TV),es.length≤maxLen∧(∀r∈es,Fits e r)∧t= .sl e.length es false
def Fits:List Sh→List TV→Prop
 |[],l=>l=[]
 |s::ss,l=>∃t r,l=t::r∧Fit s t∧Fits ss r
end
theorem Fit.fz {s:Sh} {t:TV} (h:Fit s t):M.fz t=true:=by
 cases s with
 |bool=>simp only[Fit]at h;obtain⟨b,rfl⟩:=h;rfl
 |int k=>simp only[Fit]at h;obtain⟨n,_,_,rfl⟩:=h;rfl
 |str=>simp only[Fit]at h;obtain⟨n,_,rfl⟩:=h;rfl
 |sl e=>simp only[Fit]at h;obtain⟨es,_,_,rfl⟩:=h;rfl
theorem Fits.fz:∀{ss:List Sh} {l:List TV},Fits ss l→∀t∈l,M.fz t=true
 |[],l,h,t,ht=>by simp only[Fits]at h;subst h;cases ht
 |s::ss,l,h,t,ht=>by
  simp only[Fits]at h;obtain⟨t0,r,rfl,h1,h2⟩:=h;rcases List.mem_cons.1 ht with rfl |ht
  ·exact h1.fz
  ·exact Fits.fz h2 t ht
theorem Fits.length:∀{ss:List Sh} {l:List TV},Fits ss l→l.length=ss.length
 |[],l,h=>by simp only[Fits]at h;subst h;rfl
 |s::ss,l,h=>by
  simp only[Fits]at h;obtain⟨t0,r,rfl,h1,h2⟩:=h;simp[Fits.length h2]
theorem Fits.append:∀{ss O4:List Sh} {l l':List TV},Fits ss l→Fits O4 l'→Fits (ss++O4) (l++l')
 |[],O4,l,l',h,h'=>by simp only[Fits]at h;subst h;exact h'
 |s::ss,O4,l,l',h,h'=>by
  simp only[Fits]at h;obtain⟨t0,r,rfl,h1,h2⟩:=h;simp only[List.cons_append,Fits];exact⟨_,_,rfl,h1,Fits.append h2 h'⟩
def tf (P:Program) (f:TypeId→List Sh→Bool):List Field→Nat→List Sh→Bool
 |[],_,ss=>ss.isEmpty
 |x::xs,o,ss=>Nat.beq x.offset o&&Nat.ble (P.cellsOf x.type) ss.length&&f x.type (ss.take (P.cellsOf x.type))&&tf P f xs (o+P.cellsOf x.type) (ss.drop (P.cellsOf x.type))
def O5 (f:List Sh→Bool) (z:Nat):Nat→List Sh→Bool
 |0,ss=>ss.isEmpty
 |n+1,ss=>Nat.ble z ss.length&&f (ss.take z)&&O5 f z n (ss.drop z)
def RD (P:Program):Nat→TypeId→List Sh→Bool
 |0,_,_=>false
 |n+1,t,ss=>match P.underlying t with
  |some .bool=>(match ss with|[.bool]=>true|_=>false)
  |some (.int k)=>(match ss with|[.int k']=>decide (k'=k)|_=>false)
  |some .string=>(match ss with|[.str]=>true|_=>false)
  |some (.slice e)=>(match ss with|[.sl es]=>Nat.beq (P.cellsOf e) es.length&&Nat.blt 0 es.length&&RD P n e es|_=>false)
  |some (.struct fs)=>Nat.beq (P.cellsOf t) ss.length&&tf P (RD P n) fs.toList 0 ss
  |some (.array m e)=>Nat.beq (P.cellsOf t) ss.length&&O5 (RD P n e) (P.cellsOf e) m ss
  |_=>false
structure AR (W:World) (μ:bt) (h:ae):Prop where
 high:∀b,h.size≤b→h.get b=none
 all:∀b,b<h.size→∃cs,h.get b=some (.cells cs b (b+1) 0)
 gh:∀b m,μ b=some m→b<h.size
 obj:∀b m,μ b=some m→∃cs c e fr,h.get b=some (.cells cs b (b+1) 0)∧W.heap[m.r]? =some (.cells c e fr)∧c.size=m.n∧m.s+cs.length≤m.n∧
  ∀(i:Nat) v,cs[i]? =some v→∃v',c[m.s+i]? =some v'∧ar μ v v'
def Grown (h h':ae):Prop:=h.size≤h'.size∧∀b,b<h.size→h'.get b=h.get b
theorem Grown.refl (h:ae):Grown h h:=⟨Nat.le_refl _,fun _ _=>rfl⟩
theorem Grown.trans {a b c:ae} (h:Grown a b) (k:Grown b c):Grown a c:=⟨Nat.le_trans h.1 k.1,fun x hx=>by rw[k.2 x (Nat.lt_of_lt_of_le hx h.1),h.2 x hx]⟩
theorem AR.rd {W:World} {μ:bt} {h:ae} (_:AR W μ h) {b:Nat} {cs:List Value} (hg:h.get b=some (.cells cs b (b+1) 0)):h.rd b=some cs:=
 eK (cB hg hg) (Nat.zero_le _) (by unfold ae.cellsOf;rw[hg])
theorem AR.O6 {W:World} {μ a6:bt} {h h':ae} (H:AR W μ h) (H':AR W a6 h') (g:Grown h h') {b:Nat} {cs:List Value} (hb:b<h.size) (hr:h.rd b=some cs):h'.rd b=some cs:=by
 obtain⟨JY,hg⟩:=H.all b hb;have e:=H.rd hg;rw[hr]at e;cases e;exact H'.rd (by rw[g.2 b hb,hg])
theorem AR.wW {W:World} {μ a6:bt} {h h':ae} (H:AR W μ h) (H':AR W a6 h') (g:Grown h h') {t:TV} {v:Value} (hv:VR 0 wN (· <h.size) h t v):VR 0 wN (· <h'.size) h' t v:=
 hv.mono (Nat.le_refl _) (fun _ _ _ hx=>hx) (fun _ _ hx=>hx) (fun _ hb=>Nat.lt_of_lt_of_le hb g.1) fun _ _ hb hr=>H.O6 H' g hb hr
def Laid (W:World) (ss:List Sh) (cs:List Value):Prop:=∀μ h,AR W μ h→∃a6 h' Be vs,AR W a6 h'∧μ.le a6∧Grown h h'∧Fits ss Be∧dF 0 wN (· <h'.size) h' Be vs∧ay a6 vs cs
theorem Laid.nil (W:World):Laid W [] []:=fun μ h H=>⟨μ,h,[],[],H,μ.le_refl,.refl h,by simp[Fits],.nil,.nil⟩
theorem Laid.append {W:World} {ss O4:List Sh} {cs cs':List Value} (h1:Laid W ss cs) (h2:Laid W O4 cs'):Laid W (ss++O4) (cs++cs'):=by
 intro μ h H;obtain⟨gd,k1,t1,v1,H1,l1,g1,f1,r1,x1⟩:=h1 μ h H;obtain⟨vg,k2,t2,v2,H2,l2,g2,f2,r2,x2⟩:=h2 gd k1 H1;exact⟨vg,k2,t1++t2,v1++v2,H2,bt.le_trans l1 l2,g1.trans g2,f1.append f2,(r1.qV fun _ _ hv=>H1.wW H2 g2 hv).append r2,(x1.mono l2).append x2⟩
theorem Laid.scalar {W:World} {s:Sh} {v:Value} (hp:az v=true) (hf:Fit s (.s v)):Laid W [s] [v]:=fun μ h H=>
 ⟨μ,h,[.s v],[v],H,μ.le_refl,.refl h,by simp only[Fits];exact⟨_,_,rfl,hf,rfl⟩,.cons (.s hp) .nil,.cons (.lit hp) .nil⟩
theorem Laid.rows {W:World} {e:List Sh}:∀{rows:List (List Value)},(∀r∈rows,Laid W e r)→∀μ h,AR W μ h→∃(a6:bt) (h':ae) (es:List (List TV)) (vs:List Value),AR W a6 h'∧μ.le a6∧Grown h h'∧es.length=rows.length∧(∀r∈es,Fits e r)∧
 dF 0 wN (· <h'.size) h' es.flatten vs∧ay a6 vs rows.flatten
 |[],_,μ,h,H=>⟨μ,h,[],[],H,μ.le_refl,.refl h,rfl,by simp,.nil,.nil⟩
 |r::rows,hr,μ,h,H=>by
  obtain⟨gd,k1,t1,v1,H1,l1,g1,f1,r1,x1⟩:=hr r List.mem_cons_self μ h H;obtain⟨vg,k2,es,v2,H2,l2,g2,n2,f2,r2,x2⟩:=Laid.rows (rows:=rows) (fun r' h'=>hr r' (List.mem_cons_of_mem _ h')) gd k1 H1;refine⟨vg,k2,t1::es,v1++v2,H2,bt.le_trans l1 l2,g1.trans g2,by simp[n2],?_,?_,?_⟩
  ·intro r' mR;rcases List.mem_cons.1 mR with rfl |mR
   ·exact f1
   ·exact f2 r' mR
  ·rw[List.flatten_cons];exact(r1.qV fun _ _ hv=>H1.wW H2 g2 hv).append r2
  ·rw[List.flatten_cons];exact(x1.mono l2).append x2
theorem yv {α:Type} {z:Nat}:∀{es:List (List α)},(∀e∈es,e.length=z)→∀(i j:Nat) e t,es[i]? =some e→e[j]? =some t→es.flatten[i*z+j]? =some t
 |[],_,i,j,e,t,h,_=>by simp at h
 |e0::es,hz,i,j,e,t,h,k=>by
  rw[List.flatten_cons];have h0:=hz e0 List.mem_cons_self;cases i with
  |zero=>
   simp at h;subst h;have:j<e0.length:=(List.getElem?_eq_some_iff.1 k).1;rw[Nat.zero_mul,Nat.zero_add,List.getElem?_append_left this,k]
  |succ i=>
   rw[List.getElem?_append_right (by rw[h0,Nat.succ_mul];omega),h0,show(i+1)*z+j - z=i*z+j by rw[Nat.succ_mul];omega];exact yv (fun e' h'=>hz e' (List.mem_cons_of_mem _ h')) i j e t (by simpa using h) k
theorem Fg {α:Type} {z:Nat}:∀{es:List (List α)},(∀e∈es,e.length=z)→es.flatten.length=es.length*z
 |[],_=>by simp
 |e0::es,hz=>by
  rw[List.flatten_cons,List.length_append,Fg (fun e' h'=>hz e' (List.mem_cons_of_mem _ h')),hz e0 List.mem_cons_self,List.length_cons,Nat.succ_mul];omega
theorem AR.push {W:World} {μ:bt} {h:ae} (H:AR W μ h) {vs cs:List Value} (hv:ay μ vs cs) {r s:Nat} {c:Array Value} {e:TypeId} {fr:Nat×Nat} (hr:W.heap[r]? =some (.cells c e fr))
 (hle:s+cs.length≤c.size) (hc:∀(i:Nat) v,cs[i]? =some v→c[s+i]? =some v):
 AR W (fun b=>if b=h.size then some ⟨r,s,c.size⟩else μ b) (h.push (.cells vs h.size (h.size+1) 0))∧μ.le (fun b=>if b=h.size then some ⟨r,s,c.size⟩else μ b):=by
 have WC:μ.le (fun b=>if b=h.size then some ⟨r,s,c.size⟩else μ b):=fun b m hb=>by
  have:=H.gh b m hb;show(if b=h.size then _ else _)=_;rw[if_neg om,hb]
 refine⟨⟨fun b hb=>?_,fun b hb=>?_,fun b m hb=>?_,fun b m hb=>?_⟩,WC⟩
 ·rw[ae.size_push]at hb;rw[ae.au,if_neg om];exact H.high b om
 ·rw[ae.size_push]at hb;rw[ae.au];by_cases e:b=h.size
  ·rw[if_pos e,e];exact⟨_,rfl⟩
  ·rw[if_neg e];exact H.all b om
 ·rw[ae.size_push];by_cases e:b=h.size
  ·omega
  ·rw[if_neg e]at hb;have:=H.gh b m hb;omega
 ·by_cases e:b=h.size
  ·rw[if_pos e]at hb;cases hb;refine⟨vs,c,_,_,by rw[ae.au,if_pos e,e],hr,rfl,by rw[hv.length];exact hle,fun i v hi=>?_⟩;obtain⟨v',h1,h2⟩:=hv.get hi;exact⟨v',hc i v' h1,h2.mono WC⟩
  ·rw[if_neg e]at hb;obtain⟨JY,c0,e0,WD,q1,q2,q3,q4,q5⟩:=H.obj b m hb;exact⟨JY,c0,e0,WD,by rw[ae.au,if_neg e];exact q1,q2,q3,q4,fun i v hi=>let⟨v',h1,h2⟩:=q5 i v hi;⟨v',h1,h2.mono WC⟩⟩
theorem AR.dummy {W:World} {μ:bt} {h:ae} (H:AR W μ h):AR W μ (h.push (.cells [] h.size (h.size+1) 0)):=by
 refine⟨fun b hb=>?_,fun b hb=>?_,fun b m hb=>?_,fun b m hb=>?_⟩
 ·rw[ae.size_push]at hb;rw[ae.au,if_neg om];exact H.high b om
 ·rw[ae.size_push]at hb;rw[ae.au];by_cases e:b=h.size
  ·rw[if_pos e,e];exact⟨_,rfl⟩
  ·rw[if_neg e];exact H.all b om
 ·rw[ae.size_push];have:=H.gh b m hb;omega
 ·have:=H.gh b m hb;obtain⟨JY,c0,e0,WD,q1,q2,q3,q4,q5⟩:=H.obj b m hb;exact⟨JY,c0,e0,WD,by rw[ae.au,if_neg om];exact q1,q2,q3,q4,q5⟩
theorem rX {h:ae} (o:fk):Grown h (h.push o):=⟨by rw[ae.size_push];omega,fun b hb=>by rw[ae.au,if_neg om]⟩
theorem Laid.slice {W:World} {e:List Sh} (he:0<e.length) {a:Addr} {len cap:Nat} (KU:len≤cap) (fp:cap≤maxLen) {base:Nat}
 (gj:∀i,i<cap→∃r,W.cells? base (a.add (i*e.length)) e.length=some r∧(i<len→Laid W e r)):Laid W [.sl e] [.slice (some a) len cap]:=by
 intro μ h H;by_cases h0:cap=0
 ·subst h0;have:len=0:=by omega
  subst this;have H':=H.dummy;refine⟨μ,_,[.sl e.length [] false],[.slice (some ⟨h.size,0,some e.length⟩) 0 0],H',μ.le_refl,rX _,?_,.cons ?_ .nil,.cons (.cY fun h=>absurd rfl h) .nil⟩
  ·simp only[Fits,Fit];exact⟨_,_,rfl,⟨[],by simp,by simp,rfl⟩,rfl⟩
  ·refine .sl (b:=h.size) (o:=0) (cs:=[]) (by rw[ae.size_push];omega) ?_ he rfl (Nat.le_refl _) (fun _=>rfl) (by simp) (by simp) (by simp) (by simp);exact H'.rd (by rw[ae.au,if_pos rfl])
 ·-- the row
  have xp:∀i,i<cap→∀j,j<e.length→∃r,W.cells? base (a.add (i*e.length)) e.length=some r∧r.length=e.length∧W.cell? ((a.add (i*e.length)).add j)=r[j]? :=by
   intro i hi j hj;obtain⟨r,hr,_⟩:=gj i hi;obtain⟨_,h2,h3⟩:=World.cells?_some hr;exact⟨r,hr,h2,h3 j hj⟩
  have WE:∀k j,((a.add k).add j).block=a.block:=by intro k j;unfold Addr.add;split<;>split<;>rfl
  have WB:∀k j,((a.add k).add j).off=a.off+k+j:=by
   intro k j;unfold Addr.add;split<;>split<;>(try simp only[])<;>omega
  have uv:((a.add (0*e.length)).add 0)=a:=by rw[Nat.zero_mul];rfl
  obtain⟨c,ty,fr,hW,O7⟩:∃c ty fr,W.heap[a.block]? =some (.cells c ty fr)∧a.spot=none:=by
   obtain⟨r,hr,h2,h3⟩:=xp 0 om 0 he;rw[uv]at h3;have:r[0]? =some r[0]:=List.getElem?_eq_getElem om;rw[this]at h3;unfold World.cell? at h3;split at h3
   ·rename_i c ty fr hc;split at h3
    ·cases h3
    ·rename_i hs;exact⟨c,ty,fr,hc,by simpa using hs⟩
   ·cases h3
  have WG:∀k j,((a.add k).add j).spot=none:=by
   intro k j;unfold Addr.add;split<;>split<;>simp[O7]
  have eV:∀i,i<cap→∀r,W.cells? base (a.add (i*e.length)) e.length=some r→r.length=e.length∧∀(j:Nat) v,r[j]? =some v→c[a.off+i*e.length+j]? =some v:=by
   intro i hi r hr;obtain⟨_,h2,h3⟩:=World.cells?_some hr;refine⟨h2,fun j v hv=>?_⟩;have hj:j<e.length:=by rw[←h2];exact(List.getElem?_eq_some_iff.1 hv).1
   have:=h3 j hj;unfold World.cell? at this;rw[WE,hW,WG,WB,hv]at this;simpa using this
  have Jv:a.off+cap*e.length≤c.size:=by
   obtain⟨r,hr,_⟩:=gj (cap - 1) om;obtain⟨h2,h3⟩:=eV _ om r hr;have h4:=h3 (e.length - 1) r[e.length - 1] (List.getElem?_eq_getElem om);have h5:=(Array.getElem?_eq_some_iff.1 h4).1;have:cap*e.length=(cap - 1)*e.length+e.length:=by rw[←Nat.succ_mul];congr 1;omega
   omega
  -- the elements
  let rows:=(List.range len).map fun i=>(W.cells? base (a.add (i*e.length)) e.length).getD []
  have O8:∀i,i<len→rows[i]? =W.cells? base (a.add (i*e.length)) e.length:=by
   intro i hi;obtain⟨r,hr,_⟩:=gj i om;simp only[rows,List.getElem?_map,List.getElem?_range hi,Option.map_some,hr,Option.getD_some]
  have hlen:rows.length=len:=by simp[rows]
  have hz:∀r∈rows,r.length=e.length:=by
   intro r hr;obtain⟨i,hi,rfl⟩:=List.mem_iff_getElem.1 hr;have AA:i<len:=by omega
   obtain⟨r',mR,_⟩:=gj i om;have:=O8 i AA;rw[mR,List.getElem?_eq_getElem hi]at this;cases this;exact(eV i om _ mR).1
  have hL:∀r∈rows,Laid W e r:=by
   intro r hr;obtain⟨i,hi,rfl⟩:=List.mem_iff_getElem.1 hr;have AA:i<len:=by omega
   obtain⟨r',mR,hl⟩:=gj i om;have:=O8 i AA;rw[mR,List.getElem?_eq_getElem hi]at this;cases this;exact hl AA
  obtain⟨gd,k1,es,vs,H1,l1,g1,n1,f1,r1,x1⟩:=Laid.rows hL μ h H;have xn:=Fg hz;have qF:∀(i:Nat) v,rows.flatten[i]? =some v→c[a.off+i]? =some v:=by
   intro i v hv;have hi:=(List.getElem?_eq_some_iff.1 hv).1;rw[xn,hlen]at hi;have hq:i / e.length<len:=(Nat.div_lt_iff_lt_mul he).2 hi;have hm:i % e.length<e.length:=Nat.mod_lt _ he;have hdm:i / e.length*e.length+i % e.length=i:=by rw[Nat.mul_comm];exact Nat.div_add_mod _ _
   obtain⟨r',mR,_⟩:=gj (i / e.length) om;have h1:=O8 _ hq;rw[mR]at h1;obtain⟨q1,q2⟩:=eV _ om r' mR;have h2:r'[i % e.length]? =some r'[i % e.length]:=List.getElem?_eq_getElem om;have h3:=yv hz _ _ _ _ h1 h2;rw[hdm,hv]at h3;cases h3;have:=q2 _ _ h2;rw[show a.off+i / e.length*e.length+i % e.length=a.off+i by omega]at this;exact this
  have hle:a.off+rows.flatten.length≤c.size:=by
   rw[xn,hlen];have:=Nat.mul_le_mul_right e.length KU;omega
  obtain⟨H2,l2⟩:=H1.push x1 hW hle qF;have Aa:∀r∈es,r.length=e.length:=fun r hr=>(f1 r hr).length;refine⟨_,_,[.sl e.length es false],[.slice (some ⟨k1.size,0,some e.length⟩) len cap],H2,bt.le_trans l1 l2,g1.trans (rX _),?_,.cons ?_ .nil,.cons ?_ .nil⟩
  ·simp only[Fits,Fit];exact⟨_,_,rfl,⟨es,om,f1,rfl⟩,rfl⟩
  ·have Rp:vs.length=len*e.length:=by rw[x1.length,xn,hlen]
   refine .sl (b:=k1.size) (o:=0) (cs:=vs) (by rw[ae.size_push];omega) ?_ he om KU (fun h=>by cases h) om Aa (fun r hr t ht=>(f1 r hr).fz t ht) ?_
   ·exact H2.rd (by rw[ae.au,if_pos rfl])
   ·intro i j e' t v q1 q2 q3;have q4:=yv Aa i j e' t q1 q2;rw[Nat.zero_add]at q3;exact H1.wW H2 (rX _) (r1.2 _ _ _ q4 q3)
  ·have:ar (fun b=>if b=k1.size then some (⟨a.block,a.off,c.size⟩:MT)else gd b) (.slice (some ⟨k1.size,0,some e.length⟩) len cap) (.slice (some ⟨a.block,a.off+0,none⟩) len cap):=
    .slice (m:=⟨a.block,a.off,c.size⟩) (by simp) KU KU (fun h=>h) (by simpa using Jv)
   have ha:(⟨a.block,a.off+0,none⟩:Addr)=a:=by
    cases a;simp only[]at O7;subst O7;rfl
   rw[ha]at this;exact this
end Go.M
