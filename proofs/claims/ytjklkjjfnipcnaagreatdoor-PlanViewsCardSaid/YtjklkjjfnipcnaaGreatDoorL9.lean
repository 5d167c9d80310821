/-
  Part 9 of the library that the proof leans on.
-/
import Derived.Test.YtjklkjjfnipcnaaGreatDoorL8
import Derived.IntWalk
import Derived.DataReads
noncomputable section
namespace Go.M
open Go
section
variable {T E:Env} {X:Cx} {ρ:Gh} {F:Nat→Prop} {o:Ob} {c:Nat} {af:AF} {f:Fr} {h:ab} {p:Oper} {K:OK}
theorem gT.B0 {canon:Option Value} (H:Mem X ρ F o c h) (R:gT c ρ F h o canon K) (hp:aB E af p=canon):dG E X ρ F o c af h p K:=by
 obtain⟨v,x,h1,h2,h3⟩:=R;exact dG.pure H (hp.trans h1) h2 h3
theorem Kx (L:bV T E) (H:Mem X ρ F o c h) {t:TypeId} {x:TV} {xv:Value} (hw:MF T t x o c K) (hx:VR c ρ F h x xv)
 (hp:∀d,E.desc t=some d→aB E af p=(match(generalizing:=false) d,xv with
  | .string,.string s=>some (goInt s.size)
  | .array n _,_=>some (goInt n)
  | .slice _,.slice _ n _=>some (goInt n)
  | .map _ _,.map none=>some (goInt 0)
  |_,_=>none))
 (hq:∀k e r,E.desc t=some (.map k e)→xv= .map (some r)→ba E af p=some (.len r)):dG E X ρ F o c af h p K:=by
 unfold MF at hw;split at hw
 ·rename_i hd;split at hw
  ·have:=hx.cM.1;subst this;exact dG.pure H (hp _ (L.desc _ _ hd)) (.s rfl) hw
  ·exact hw.elim
 ·rename_i n e hd;exact dG.pure H ((hp _ (L.desc _ _ hd)).trans (by cases xv<;>rfl)) (.s rfl) hw
 ·rename_i e hd;have arr:∀{m:Nat} {y:TO},look o m=some y→wz y=true→VR c ρ F h (.tk m) xv→K (.s (goInt (AT y))) o c .pure→dG E X ρ F o c af h p K:=by
   intro m y hl hy hx hw;obtain⟨Sm,hO⟩:=H.bR hl;have:∃a k,xv= .slice a (AT y) k:=by
    rcases hO.tk hy hx with⟨h0,_,rfl |⟨b,o',cs,_,_,_,_,rfl⟩⟩|⟨b,cap,_,_,rfl⟩
    ·rw[h0];exact⟨none,0,rfl⟩
    ·rw[h0];exact⟨_,0,rfl⟩
    ·exact⟨_,_,rfl⟩
   obtain⟨a,k,rfl⟩:=this;exact dG.pure H (hp _ (L.desc _ _ hd)) (.s rfl) hw
  split at hw
  ·cases hx with
   |bg hb=>exact dG.pure H (hp _ (L.desc _ _ hd)) (.s rfl) hw
  ·rename_i m;split at hw
   ·rename_i hl;exact arr hl rfl hx hw
   ·rename_i hl;exact arr hl rfl hx hw
   ·exact hw.elim
  ·cases hx with
   |nil h1=>subst h1;exact dG.pure H (hp _ (L.desc _ _ hd)) (.s rfl) hw
   |sl q1 q2 q3 q4=>subst q4;exact dG.pure H (hp _ (L.desc _ _ hd)) (.s rfl) hw
  ·rename_i m k;split at hw
   ·rename_i hl;obtain⟨O0,hK⟩:=hw;obtain⟨Sm,hO⟩:=H.bR hl;cases hx with
    |pv BX nJ ha h0=>
    have:∃a q,xv= .slice a k q:=by
     cases hO with
     |nil hb hz=>
      have EM:k=0:=by simpa using O0
      subst EM;rcases h0 _ hb with rfl |⟨b,o',cs,_,_,_,_,rfl⟩
      ·exact⟨none,0,rfl⟩
      ·exact⟨_,0,rfl⟩
     |arr hb hg hf ht dc iJ bY jL fy hc hF=>
      obtain⟨cap,_,rfl⟩:=ha _ _ _ hb;exact⟨_,_,rfl⟩
    obtain⟨a,q,rfl⟩:=this;exact dG.pure H (hp _ (L.desc _ _ hd)) (.s rfl) hK
   ·exact hw.elim
  ·exact hw.elim
 ·rename_i k e hd;split at hw
  ·have:=hx.cM.1;subst this;exact dG.pure H (hp _ (L.desc _ _ hd)) (.s rfl) hw
  ·rename_i n;split at hw
   ·rename_i kn es hl;obtain⟨Sm,hO⟩:=H.bR hl;cases hO with
    |map hb hg hlen hc bA=>
     rename_i b clock ev;cases hx with
     |mp bE=>
      rw[hb]at bE;cases bE;have zc:dB h b=some (ev,clock):=by unfold dB;rw[hg]
      have hE:rk c ρ F h kn es ev:=⟨hlen,hc⟩;refine gV.B0 (q:=.len b) (gV.same H (by simp[RQ.run,zc];rfl) (.s rfl) ?_ (.jR (.refl _) rfl hl (.inl hb) ⟨_,zc,hE.refl⟩)) (hp _ (L.desc _ _ hd)) (hq _ _ _ (L.desc _ _ hd) rfl);rw[←hlen];exact hw
   ·rename_i kn es hl;obtain⟨Sm,hO⟩:=H.bR hl;cases hO with
    |eC hb hg bL hc bA=>
     rename_i Sq b clock ev;cases hx with
     |mp bE=>
      rw[hb]at bE;cases bE;have zc:dB h b=some (ev,clock):=by unfold dB;rw[hg]
      have hE:gj c ρ F h X.base kn Sq es ev:=hc;have hlen:es.length=ev.length:=by
       have key:∀{es:List (Value×TV)} {ev:List MapEntry} {S:Ft},gj c ρ F h X.base kn S es ev→es.length=ev.length:=by
        intro es ev S hE
        induction hE with
        |nil=>rfl
        |cons _ _ _ _ _ ih=>simp[ih]
       exact key hE
      refine gV.B0 (q:=.len b) (gV.same H (by simp[RQ.run,zc];rfl) (.s rfl) ?_ (.jR (.refl _) rfl hl (.inl hb) ⟨_,zc,hE.refl fun e he t ht=>.inr (bL e he t ht)⟩)) (hp _ (L.desc _ _ hd)) (hq _ _ _ (L.desc _ _ hd) rfl);rw[←hlen];exact hw
   ·exact hw.elim
  ·exact hw.elim
 ·exact hw.elim
theorem gA (L:bV T E) (N:jI T F h) (S:cU c ρ F h f af) {x:Operand} {l:List Operand} (jk:l.all (oZ T)=true) (hm:x∈l):∃v,ev E af x=some v∧VR c ρ F h (ky T f x) v:=nL L N S (List.all_eq_true.1 jk x hm)
theorem Tq (L:bV T E) (N:jI T F h) (S:cU c ρ F h f af) {x:Option Operand} {l:List Operand} (jk:l.all (oZ T)=true) (hm:∀y,x=some y→y∈l):∃v,mu E af x=some v∧Ki c ρ F h (J6 T f x) v:=by
 cases x with
 |none=>exact⟨none,rfl,.inl ⟨rfl,rfl⟩⟩
 |some y=>
  obtain⟨v,h1,h2⟩:=nL (E:=E) L N S (List.all_eq_true.1 jk y (hm y rfl));exact⟨some v,by simp[mu,h1],.inr ⟨_,_,rfl,rfl,h2⟩⟩
theorem A6 (L:bV T E) (H:Mem X ρ F o c h) {b:Builtin} {qg:Array Operand} {argTypes:Array TypeId} {args:List TV} {vs:List Value} {dst:Option Tmp} {ty:TypeId} {pos:String} {after:Array Edge} {guard:Option (Nat×Bool)}
 (hw:uD T b argTypes.toList args o c K) (hr:cX c ρ F h args vs) (he:zR E af qg.toList=some vs):dG E X ρ F o c af h ⟨dst,.call ⟨.builtin b,qg,argTypes⟩,ty,pos,after,guard⟩ K:=by
 have hp:aB E af ⟨dst,.call ⟨.builtin b,qg,argTypes⟩,ty,pos,after,guard⟩=ld E b argTypes.toList vs:=by simp only[aB,he,Option.bind_some]
 have dx:aP E af ⟨dst,.call ⟨.builtin b,qg,argTypes⟩,ty,pos,after,guard⟩=none:=rfl;have O1:bT E X.base af ⟨dst,.call ⟨.builtin b,qg,argTypes⟩,ty,pos,after,guard⟩ h=(pt E X.base h b argTypes.toList vs).bind fun r=>some (.val r.1,r.2):=by simp only[bT,he,Option.bind_some]
 have fj:b≠ .len→ba E af ⟨dst,.call ⟨.builtin b,qg,argTypes⟩,ty,pos,after,guard⟩=none:=fun hb=>by
  cases b<;>first|rfl |exact absurd rfl hb
 unfold uD at hw;split at hw
 ·rename_i t ts x xs wJ;obtain⟨xv,m,rfl,h1,h2⟩:=hr.aG;refine Kx L H hw h1 (fun d hd=>?_) (fun k e r hd hx=>?_)
  ·rw[hp,wJ];simp only[ld,hd,Option.bind_some]
   try rfl
  ·subst hx;simp only[ba,wJ,he,Option.bind_some,hd]
 ·rename_i st xt fl l wJ;obtain⟨sv,m,rfl,h1,h2⟩:=hr.aG;obtain⟨xv,m',rfl,h3,h4⟩:=h2.aG;obtain rfl:=h4.bu;have Wx:=h3.cM.1;subst Wx;refine A4 L H hw h1 (by rw[hp,wJ];rfl) (fj (by simp)) dx fun v h' hh=>?_;rw[O1,wJ];show(match bq E X.base h st xt sv (.int .i64 l)with|some r=>some r|none=>fX E h st xt sv (.int .i64 l)).bind _=_;have zH:bq E X.base h st xt sv (.int .i64 l)=none:=by
   unfold bq;cases E.desc st with
   |none=>rfl
   |some sd=>cases E.desc xt with
    |none=>rfl
    |some xd=>
     cases sd<;>try rfl
     rename_i elem;simp only[Option.bind_some];cases E.size elem<;>try rfl
     cases E.bytes elem<;>try rfl
     cases E.zero elem<;>rfl
  rw[zH,hh];rfl
 ·rename_i st xt s x _ wJ;obtain⟨sv,m,rfl,h1,h2⟩:=hr.aG;obtain⟨xv,m',rfl,h3,h4⟩:=h2.aG;obtain rfl:=h4.bu;refine C1 L H hw h1 h3 (by rw[hp,wJ];rfl) (fj (by simp)) dx fun v h' hh=>?_;rw[O1,wJ];show(match bq E X.base h st xt sv xv with|some r=>some r|none=>fX E h st xt sv xv).bind _=_;rw[hh];rfl
 ·rename_i ts k x k' y;obtain⟨sv,m,rfl,h1,h2⟩:=hr.aG;obtain⟨xv,m',rfl,h3,h4⟩:=h2.aG;obtain rfl:=h4.bu;rw[h1.cM.1,h3.cM.1]at hp;exact dG.pure H (x:=.int k (if y>x then y else x)) (by rw[hp];rfl) (.s rfl) hw
 ·rename_i ts k x k' y;obtain⟨sv,m,rfl,h1,h2⟩:=hr.aG;obtain⟨xv,m',rfl,h3,h4⟩:=h2.aG;obtain rfl:=h4.bu;rw[h1.cM.1,h3.cM.1]at hp;exact dG.pure H (x:=.int k (if y<x then y else x)) (by rw[hp];rfl) (.s rfl) hw
 ·rename_i t ts fl wJ;obtain⟨sv,m,rfl,h1,h2⟩:=hr.aG;obtain rfl:=h2.bu;split at hw
  ·rename_i e hd;have:sv= .slice none 0 0:=by
    cases h1 with
    |nil=>rfl
    |sl q1 q2 q3=>omega
   subst this;refine dG.pure H (x:=goInt 0) ?_ (.s rfl) hw;rw[hp,wJ];simp only[ld,L.desc _ _ hd,Option.bind_some]
  ·exact hw.elim
 ·rename_i t ts m k wJ;obtain⟨mv,m1,rfl,h1,h2⟩:=hr.aG;obtain⟨kv,m',rfl,h3,h4⟩:=h2.aG;obtain rfl:=h4.bu;refine CW L H hw h1 h3 (by rw[hp,wJ];rfl) (fj (by simp)) dx ?_;rw[O1,wJ];rfl
 ·rename_i t ts m i args wJ;obtain⟨xv,m1,rfl,h1,h2⟩:=hr.aG;split at hw
  ·rename_i elem hd;split at hw
   ·rename_i zv z es hz hl;split at hw
    ·rename_i zs hY;split at hw
     ·rename_i hc;refine CX L H hd hz hl hY hc hw h1 (by rw[hp,wJ];rfl) (fj (by simp)) dx ?_;rw[O1,wJ];rfl
     ·exact hw.elim
    ·exact hw.elim
   ·exact hw.elim
  ·exact hw.elim
 ·rename_i t ts n args wJ;obtain⟨mv,m1,rfl,h1,h2⟩:=hr.aG;split at hw
  ·rename_i d kn es hd hl;refine xr H hl (.inl ⟨_,rfl⟩) hw h1 (by rw[hp,wJ];rfl) (fj (by simp)) dx (by rw[L.desc _ _ hd];rfl) ?_ (t:=t);rw[O1,wJ];rfl
  ·rename_i d kn es op hd hl;refine xr H hl (.inr ⟨_,_,rfl⟩) hw h1 (by rw[hp,wJ];rfl) (fj (by simp)) dx (by rw[L.desc _ _ hd];rfl) ?_ (t:=t);rw[O1,wJ];rfl
  ·exact hw.elim
 ·exact hw.elim
theorem A7 (s:ByteArray):(Ar s).length=s.size:=by simp[Ar]
theorem HR {c:Nat} {ρ:Gh} {F:Nat→Prop} {h:ab}:∀{ns:List Int} {vs:List Value},cX c ρ F h (As ns).flatten vs→vs=ns.map (Value.int .u8)
 |[],vs,H=>H.bu
 |n::ns,vs,H=>by
  obtain⟨v,mF,rfl,h1,h2⟩:=H.aG;rw[h1.cM.1,HR h2];rfl
theorem DY:∀ns:List Int,Gj (ns.map (Value.int .u8))=some ns
 |[]=>rfl
 |n::ns=>by simp only[List.map_cons,Gj,DY ns,Option.bind_some]
theorem A8 (L:bV T E) (H:Mem X ρ F o c h) {s d:TypeId} {x:TV} {xv:Value} (hw:uG T s d x o c K) (hx:VR c ρ F h x xv)
 (hp:aB E af p=oh E s d xv) (hq:ba E af p=none) (dx:aP E af p=none) (he:bT E X.base af p h=(iN E X.base h s d xv).bind fun r=>some (.val r.1,r.2)):dG E X ρ F o c af h p K:=by
 unfold uG at hw;split at hw
 ·rename_i v;have:=hx.cM.1;subst this;split at hw
  ·rename_i str e hd;split at hw
   ·rename_i sd ed hs Ts;split at hw
    ·rename_i hu;have JF:aB E af p=none:=by rw[hp];simp[oh,L.desc _ _ hs,L.desc _ _ hd]
     have E1:ER c ρ F h 1 (Ar str) (dX str):=by
      refine⟨by simp[Ar,dX],fun e he=>?_,fun e he t ht=>?_,fun i j e t v q1 q2 q3=>?_⟩
      ·simp only[Ar,List.mem_map]at he;obtain⟨b,_,rfl⟩:=he;rfl
      ·simp only[Ar,List.mem_map]at he;obtain⟨b,_,rfl⟩:=he;simp at ht;subst ht;rfl
      ·simp only[Ar,List.getElem?_map,Option.map_eq_some_iff]at q1;obtain⟨b,q1,rfl⟩:=q1;cases j with
       |succ j=>simp at q2
       |zero=>
        simp at q2;subst q2;simp only[dX,List.getElem?_map,Nat.mul_one,Nat.add_zero,q1,Option.map_some,Option.some.injEq]at q3;subst q3;exact .s rfl
     obtain⟨M2,k2⟩:=H.yW E1 om;refine dG.ck (x:=.slice (some ⟨h.size,0,some 1⟩) str.size (str.size+1)) (h':=h.push (.cells (dX str) h.size h.size 0)) H JF hq dx (by rw[he];simp[iN,L.desc _ _ hs,L.desc _ _ hd,L.desc _ _ Ts,hu,aW,fresh]) ⟨M2,k2,by show h.size≤h.size+1;omega,fun _ hb=>hb,fun b cs hb hr=>(cL H.wf.le _ (H.CE hb)).trans hr⟩ ?_ (fun m y hl hm=>?_) hw
     ·refine .tk om rfl (fun b z len hx=>?_) (fun z hx=>?_)
      ·rw[aC]at hx;cases hx;exact⟨str.size+1,by rw[A7];omega,by rw[A7]⟩
      ·rw[aC]at hx;cases hx
     ·have UF:=H.lt hl;refine⟨⟨y,by rw[aD,if_neg (by simp only;omega)];exact hl⟩,by rw[aK _ _ om],fun b hb=>?_⟩;have:=H.uZ hl hb;exact⟨by rw[ab.ai,if_neg om],fun cs hr=>by rw[cL H.wf.le _ this];exact hr⟩
    ·exact hw.elim
   ·exact hw.elim
  ·exact gT.B0 H (qa hw fun x hx=>CQ L hx) hp
 ·split at hw
  ·rename_i z es zO;split at hw
   ·rename_i e hd hs;split at hw
    ·rename_i ed Ts;split at hw
     ·rename_i hc;simp only[Bool.and_eq_true,Bool.or_eq_true,beq_iff]at hc;obtain⟨hu,hz⟩:=hc;obtain⟨ns,rfl,hK⟩:=hw;obtain⟨hlen,_,_,jM⟩:=mY H zO (n:=1) (hz.imp id fun h=>⟨h,rfl⟩) (by simp) hx;obtain⟨a,cap,rfl⟩:∃a cap,xv= .slice a (As ns).length cap:=by
       unfold kJ at hlen;split at hlen
       ·cases hlen;exact⟨_,_,rfl⟩
       ·exfalso;unfold PO at zO;split at zO
        ·cases hx with|tk _ h1=>simp[E3]at h1
        ·cases hx
        ·cases zO
       ·cases hlen
      have JF:aB E af p=none:=by rw[hp];simp[oh,L.desc _ _ hs,L.desc _ _ hd]
      have Tt:iN E X.base h s d (.slice a (As ns).length cap)=some (.string (strOf ns),h):=by
       simp only[iN,L.desc _ _ hs,L.desc _ _ hd,L.desc _ _ Ts,hu,Option.bind_some,aW,bB,beq_iff];split
       ·rename_i h0;have:ns=[]:=by simpa[As]using h0
        subst this;rfl
       ·rename_i h0;rcases jM with h1|⟨new,h1,_,_,_,hV⟩
        ·rw[h1]at h0;simp at h0
        ·have e2:=HR (ns:=ns) (vs:=new) (by simpa[bZ]using hV);rw[h1,e2];simp only[Option.bind_some,DY]
      exact dG.ck H JF hq dx (by rw[he,Tt];rfl) (.refl H) (.s rfl) (.refl _) hK
     ·exact hw.elim
    ·exact hw.elim
   ·exact hw.elim
  ·exact hw.elim
theorem xu {base n len:Nat} {es:List (List TV)} (hlen:es.length=len):∀{ps:List (Nat×TV)} {pv:List (Nat×Value)} {op:List (Nat×List TV)} {cs:List Value},
 (ps.all fun p=>okV p.2&&Nat.beq (ay p.2).length n&&Nat.blt p.1 len)=true→EQ c ρ F h base n [] es op cs→Kg c ρ F h ps pv→
 ∃cv,iW (fun i=>some (i*n,n)) cs pv=some cv∧EQ c ρ F h base n [] es (MG ps op) cv
 |[],[],op,cs,_,hQ,_=>⟨cs,rfl,hQ⟩
 |[],_::_,_,_,_,_,h2=>h2.elim
 |_::_,[],_,_,_,_,h2=>h2.elim
 |q::ps,(k,x)::pv,op,cs,ha,hQ,h2=>by
  obtain⟨e0,Wy,h2⟩:=h2;obtain rfl:q.1=k:=e0;simp only[List.all_cons,Bool.and_eq_true,beq_iff,aF]at ha;obtain⟨⟨⟨DV,Wz⟩,Yb⟩,ha⟩:=ha;have re:=gU Wy DV;obtain⟨dx,hY⟩:=pZ hQ.each hQ.e7;have HS:q.1<(bZ es op).length:=by omega
  obtain⟨row,iq⟩:∃e,(bZ es op)[q.1]? =some e:=⟨_,List.getElem?_eq_getElem HS⟩;have Qp:=hY row (List.mem_of_getElem? iq);have hC:=hQ.cell;rw[←u3 iq]at hC;obtain⟨S1,S2,S3,v1,v2,v3,e0,e1,a1,a2,a3⟩:=fF hY HS hC;have e2:v1.length=q.1*n:=by
   have h1:=a1.len;have:=(dI hY iq).2;rw[Nat.add_mul]at this;rw[←h1,List.length_take];omega
  have e3:v2.length=n:=by rw[←a2.len];exact Qp
  have e4:cB v2 0 x.cells.toList=some x.cells.toList:=by
   obtain⟨r,hr⟩:=ke (n:=0) (l:=v2) (xs:=x.cells.toList) (by rw[←re.1];omega);rw[hr,jh hr];have:v2.length≤x.cells.toList.length:=by rw[←re.1];omega
   rw[List.take_zero,List.drop_zero,List.nil_append,List.drop_eq_nil_of_le this,List.append_nil]
  have e5:=AZ (v1:=v1) (v3:=v3) e4;rw[Nat.add_zero,e2,←e1]at e5;simp only[List.append_eq_nil_iff,List.nil_eq]at e0;obtain⟨rfl,rfl,rfl⟩:=e0;have hJ:=jn hY HS a1 (b8.j9 (base:=base) re) a3;have WA:EQ c ρ F h base n [] es ((q.1,ay q.2)::op) (v1++(x.cells.toList++v3)):=by
   refine⟨?_,hQ.each,hQ.cl,fun p hp=>?_,hJ⟩
   ·have:=(cH e5).2.1;rw[this];exact hQ.len
   ·rcases List.mem_cons.1 hp with rfl |hp
    ·exact⟨om,Wz⟩
    ·exact hQ.e7 p hp
  obtain⟨cv,g1,g2⟩:=xu hlen ha WA h2;refine⟨cv,?_,g2⟩;have:x.cells.size=n:=by have:=re.1;simp only[Array.length_toList]at this;omega
  simp[iW,this,e5,aW,g1]
theorem HT (L:bV T E) (NX:CI E X) (H:Mem X ρ F o c h) (S:cU c ρ F h f af) (hw:LB T (VC E) p.op f o c K):dG E X ρ F o c af h p K:=by
 obtain⟨dst,op,ty,pos,after,guard⟩:=p;have N:jI T F h:=(NX.now H).sub L;simp only at hw;unfold LB at hw;split at hw
 ·exact hw.elim
 ·rename_i jk;cases op with
  |move x=>
   obtain⟨v,h1,h2⟩:=gA (E:=E) L N S jk (x:=x) (by simp[Op.operands]);obtain⟨hK,_⟩:=dm hw;exact dG.pure H (x:=v) h1 h2 hK
  |assign x=>
   obtain⟨v,h1,h2⟩:=gA (E:=E) L N S jk (x:=x) (by simp[Op.operands]);obtain⟨hK,_⟩:=dm hw;exact dG.pure H (x:=v) h1 h2 hK
  |pick q a b=>
   obtain⟨qv,h1,h2⟩:=gA (E:=E) L N S jk (x:=q) (by simp[Op.operands]);obtain⟨av,h3,h4⟩:=gA (E:=E) L N S jk (x:=a) (by simp[Op.operands]);obtain⟨bv,h5,h6⟩:=gA (E:=E) L N S jk (x:=b) (by simp[Op.operands]);simp only at hw;split at hw
   ·rename_i qb he;rw[he]at h2;have:=h2.cM.1;subst this;split at hw
    ·obtain⟨hK,_⟩:=dm hw;exact dG.pure H (x:=av) (by simp[aB,h1,h3,sN]) h4 hK
    ·obtain⟨hK,_⟩:=dm hw;exact dG.pure H (x:=bv) (by simp[aB,h1,h5,sN]) h6 hK
   ·exact hw.elim
  |alloc t=>
   simp only at hw;split at hw
   ·rename_i z hz;split at hw
    ·rename_i zs hY;obtain⟨iJ,gJ⟩:=L.zero _ _ hz;exact rq H (eQ gJ hY) rfl rfl (by simp[aP,iJ]) hw
    ·exact hw.elim
   ·exact hw.elim
  |box t x=>
   obtain⟨v,h1,h2⟩:=gA (E:=E) L N S jk (x:=x) (by simp[Op.operands]);simp only at hw;obtain⟨hK,aX⟩:=dm hw;have dx:aP E af ⟨dst,.box t x,ty,pos,after,guard⟩=some (.cells v.cells.toList,.ptr):=by simp[aP,h1]
   split at hK
   ·exact hK.elim
   ·exact hK.elim
   ·exact hK.elim
   ·exact hK.elim
   ·rename_i cs he;have re:=gU h2 (by rw[he];rfl);rw[he]at re;exact rq H re rfl rfl dx hK
   ·rename_i n1 n2 n4 n5 n3;have BZ:okV (ky T f x)=true:=by
     cases he:ky T f x with
     |j=>exact absurd he n1
     |dH cs=>exact absurd he (n2 cs)
     |sv a b=>exact absurd he (n4 a b)
     |pv a b=>exact absurd he (n5 a b)
     |_=>rfl
    have re:=gU h2 BZ;have Tt:ay (ky T f x)=[ky T f x]:=by
     cases he:ky T f x with
     |agg cs=>exact absurd he (n3 cs)
     |_=>rfl
    rw[Tt]at re;exact rq H re rfl rfl dx hK
  |build t ps=>
   obtain⟨pv,h1,h2⟩:=lK (E:=E) L N S (l:=ps.toList) (by simpa[Op.operands]using jk);exact gT.B0 H (Fl L hw h2) (by simp[aB,h1])
  |buildSlice t len ps=>
   obtain⟨pv,h1,h2⟩:=lK (E:=E) L N S (l:=ps.toList) (by simpa[Op.operands]using jk);simp only at hw;unfold sf at hw;split at hw
   ·rename_i elem hd;split at hw
    ·rename_i n z hn hz;obtain⟨iJ,gJ⟩:=L.zero _ _ hz;split at hw
     ·rename_i zs hc hY;simp only[Bool.and_eq_true,beq_iff,ax,aF]at hc;obtain⟨⟨l5,Eu⟩,OG⟩:=hc;split at hw
      ·rename_i es JG Mi;have oO:=eQ (c:=c) (ρ:=ρ) (F:=F) (h:=h) gJ hY;have E9:zs.length=n:=by have:=oO.1;simp only[Array.length_toList]at this;omega
       obtain⟨F',cv,S',b1,b2,b3⟩:=xq H Mi (ER.replicate oO E9 JG len) h2;have AH:es.length=len:=by rw[b3];simp
       refine DT H S' (cap:=len) b2 OG om rfl rfl ?_ hw;simp only[aP,L.desc _ _ hd,Option.bind_some,h1,L.size _ _ hn,iJ,Eu,ax.2 l5,aW];rw[AH];simp[b1]
      ·rename_i JG Mi;split at hw
       ·rename_i iP;have oO:=eQ (c:=c) (ρ:=ρ) (F:=F) (h:=h) gJ hY;have E9:zs.length=n:=by have:=oO.1;simp only[Array.length_toList]at this;omega
        have hE:=ER.replicate oO E9 JG len
        have WB:EQ c ρ F h X.base n [] (List.replicate len zs) [] (aI z.cells.toList len):=
         ⟨hE.len,hE.each,fun e he t ht=>by
          have:=hE.fz e he t ht;unfold kI;split<;>first|rfl |exact this,by simp,b8.j9 (fJ hE.len hE.each hE.cell)⟩
        obtain⟨cv,g1,hQ⟩:=xu (by simp) iP WB h2;obtain⟨M1,k1⟩:=H.CF hQ OG;refine dG.alloc H (.refl H) (md:=.cells cv) (hd:=.slice n len len) rfl rfl ?_ M1 k1 (.tk om rfl (fun b z' len' hx=>?_) (fun z' hx=>?_)) hw
        ·simp only[aP,L.desc _ _ hd,Option.bind_some,h1,L.size _ _ hn,iJ,Eu,ax.2 l5,aW];simp[g1]
        ·rw[aC]at hx;cases hx;exact⟨len,by simp,by simp[oG.val]⟩
        ·rw[aC]at hx;cases hx
       ·exact hw.elim
      ·exact hw.elim
     ·exact hw.elim
    ·exact hw.elim
   ·exact hw.elim
  |load t a=>
   obtain⟨av,h1,h2⟩:=gA (E:=E) L N S jk (x:=a) (by simp[Op.operands]);obtain⟨q,h3,h4⟩:=Hz L H hw h2;exact h4.B0 rfl (by simp only[ba,h1,Option.bind_some];exact h3)
  |store t a v=>
   obtain⟨av,h1,h2⟩:=gA (E:=E) L N S jk (x:=a) (by simp[Op.operands]);obtain⟨vv,h3,h4⟩:=gA (E:=E) L N S jk (x:=v) (by simp[Op.operands]);exact Fs L H hw h2 h4 rfl rfl rfl (by simp only[bT,h1,h3,Option.bind_some];rfl)
  |nilCheck x=>
   obtain⟨v,h1,h2⟩:=gA (E:=E) L N S jk (x:=x) (by simp[Op.operands]);simp only at hw;split at hw
   ·rename_i n q he;rw[he]at h2;cases h2 with
    |ptr hb=>exact dG.pure H (by simp[aB,h1,kK]) (.ptr hb) hw
   ·rename_i e q he;rw[he]at h2;cases h2 with
    |ep a1 a2 a3 a4 a5=>exact dG.pure H (by simp[aB,h1,kK]) (.ep a1 a2 a3 a4 a5) hw
   ·rename_i g a b he;rw[he]at h2;cases h2 with
    |de a1 a2 a3 a4=>exact dG.pure H (by simp[aB,h1,kK]) (.de a1 a2 a3 a4) hw
   ·exact hw.elim
  |binOp Yc t x y t2=>
   obtain⟨av,h1,h2⟩:=gA (E:=E) L N S jk (x:=x) (by simp[Op.operands]);obtain⟨bv,h3,h4⟩:=gA (E:=E) L N S jk (x:=y) (by simp[Op.operands]);exact gT.B0 H (Kh L H hw h2 h4) (by simp[aB,h1,h3])
  |unOp Yd t x=>
   obtain⟨v,h1,h2⟩:=gA (E:=E) L N S jk (x:=x) (by simp[Op.operands]);simp only at hw;split at hw
   ·rename_i w he;split at hw
    ·rename_i hs;rw[he]at h2;have:=h2.cM.1;subst this;exact gT.B0 H (qa hw fun x hx=>hx) (by simp[aB,h1,hs,aW])
    ·exact hw.elim
   ·exact hw.elim
  |convert s d x=>
   obtain⟨v,h1,h2⟩:=gA (E:=E) L N S jk (x:=x) (by simp[Op.operands]);exact A8 L H hw h2 (by simp[aB,h1]) rfl rfl (by simp[bT,h1])
  |makeInterface t x=>
   obtain⟨v,h1,h2⟩:=gA (E:=E) L N S jk (x:=x) (by simp[Op.operands]);simp only at hw;split at hw
   ·exact hw.elim
   ·exact hw.elim
   ·rename_i d hd n1;split at hw
    ·exact hw.elim
    ·refine dG.pure H (x:=.iface t v) ?_ (.k9 h2) hw;simp only[aB,L.desc _ _ n1,Option.bind_some,h1]
  |makeFunc fn first captured=>
   simp only at hw;split at hw
   ·rename_i g;have he:(first.toList.all (oZ T)=true)∧(captured.toList.all (oZ T)=true):=by
     simpa[Op.operands]using jk
    obtain⟨a,h1,h2⟩:=mU (E:=E) L N S he.1;obtain⟨b,h3,h4⟩:=mU (E:=E) L N S he.2;exact dG.pure H (x:=.func (.func g) a.toArray b.toArray) (by simp[aB,h1,h3]) (.de (by simpa using h2.1) (fun i t v q1 q2=>h2.2 i t v q1 (by simpa using q2)) (by simpa using h4.1) (fun i t v q1 q2=>h4.2 i t v q1 (by simpa using q2))) hw
   ·exact hw.elim
  |makeMap t r=>
   cases r with
   |some r=>exact hw.elim
   |none=>
    simp only at hw;split at hw
    ·split at hw
     ·split at hw
      ·exact Kp H _ rfl rfl rfl hw
      ·exact hw.elim
     ·exact hw.elim
    ·exact hw.elim
  |makeSlice t l k=>
   obtain⟨lv,h1,h2⟩:=gA (E:=E) L N S jk (x:=l) (by simp[Op.operands]);obtain⟨kv,h3,h4⟩:=gA (E:=E) L N S jk (x:=k) (by simp[Op.operands]);simp only at hw;unfold uE at hw;split at hw
   ·rename_i elem li ki hd SK WC;split at hw
    ·rename_i n bytes z hn zF hz;obtain⟨iJ,gJ⟩:=L.zero _ _ hz;split at hw
     ·rename_i zs hc hY;simp only[Bool.and_eq_true,beq_iff,aF]at hc;obtain⟨hc,C0⟩:=hc;split at hw
      ·rename_i JG;obtain⟨⟨b1,b2,Ye⟩,hK⟩:=hw;have b3:(ki+1)*((bytes:Int)+1)≤1099511627776:=by
        have h1:(ki.toNat+1)*(bytes+1)≤1099511627776:=size_le om C0;have h2:ki=(ki.toNat:Int):=by omega
        rw[h2];have h3:=Int.ofNat_le.2 h1;rw[Int.natCast_mul]at h3;exact h3
       have oO:=eQ (c:=c) (ρ:=ρ) (F:=F) (h:=h) gJ hY;have E9:zs.length=n:=by have:=oO.1;simp only[Array.length_toList]at this;omega
       have hE:=ER.replicate oO E9 JG li.toNat
       refine DT H (.refl H) (cap:=bif Nat.beq li.toNat ki.toNat then li.toNat else li.toNat+1) hE hc.2 (by simp only[List.length_replicate,bB];split<;>omega) rfl rfl ?_ hK;simp only[aP,L.desc _ _ hd,Option.bind_some,h1,h3,kT SK h2,kT WC h4,L.size _ _ hn,L.bytes _ _ zF,iJ,hc.1,aW];simp[b1,b2,b3]
      ·exact hw.elim
     ·exact hw.elim
    ·exact hw.elim
   ·exact hw.elim
  |slice t x lo hi mx=>
   obtain⟨xv,h1,h2⟩:=gA (E:=E) L N S jk (x:=x) (by simp[Op.operands]);obtain⟨uU,h3,h4⟩:=Tq (E:=E) L N S jk (x:=lo) (fun y e=>by subst e;simp[Op.operands]);obtain⟨hiv,h5,h6⟩:=Tq (E:=E) L N S jk (x:=hi) (fun y e=>by subst e;simp[Op.operands]);obtain⟨JJ,h7,h8⟩:=Tq (E:=E) L N S jk (x:=mx) (fun y e=>by subst e;simp[Op.operands]);exact(Fj L H hw h2 h4 h6 h8).B0 H (by simp[aB,h1,h3,h5,h7])
  |fieldAddr s x fd=>
   obtain⟨v,h1,h2⟩:=gA (E:=E) L N S jk (x:=x) (by simp[Op.operands]);exact gT.B0 H (wE L H hw h2) (by simp only[aB,h1,Option.bind_some];rfl)
  |field t x fd=>
   obtain⟨v,h1,h2⟩:=gA (E:=E) L N S jk (x:=x) (by simp[Op.operands]);exact gT.B0 H (Fh L hw h2) (by simp only[aB,h1,Option.bind_some];rfl)
  |indexAddr t x i=>
   obtain⟨v,h1,h2⟩:=gA (E:=E) L N S jk (x:=x) (by simp[Op.operands]);obtain⟨iv,h3,h4⟩:=gA (E:=E) L N S jk (x:=i) (by simp[Op.operands]);exact gT.B0 H (wF L H hw h2 h4) (by simp[aB,h1,h3])
  |index t x i=>
   obtain⟨v,h1,h2⟩:=gA (E:=E) L N S jk (x:=x) (by simp[Op.operands]);obtain⟨iv,h3,h4⟩:=gA (E:=E) L N S jk (x:=i) (by simp[Op.operands]);exact gT.B0 H (Fi L hw h2 h4) (by simp[aB,h1,h3])
  |lookup t x i ok=>
   obtain⟨v,h1,h2⟩:=gA (E:=E) L N S jk (x:=x) (by simp[Op.operands]);obtain⟨iv,h3,h4⟩:=gA (E:=E) L N S jk (x:=i) (by simp[Op.operands]);rcases CT L H hw h2 h4 with⟨rfl,R⟩|⟨r,rfl,q,hq,R⟩
   ·exact gT.B0 H R (by simp only[aB,h1,h3,Option.bind_some];cases E.desc t with|none=>rfl |some d=>cases d<;>rfl)
   ·refine R.B0 ?_ (by simp only[ba,h1,h3,Option.bind_some];exact hq);simp only[aB,h1,h3,Option.bind_some];cases E.desc t with
    |none=>rfl
    |some d=>cases d<;>rfl
  |mapUpdate t m k v=>
   obtain⟨mv,h1,h2⟩:=gA (E:=E) L N S jk (x:=m) (by simp[Op.operands]);obtain⟨kv,h3,h4⟩:=gA (E:=E) L N S jk (x:=k) (by simp[Op.operands]);obtain⟨vv,h5,h6⟩:=gA (E:=E) L N S jk (x:=v) (by simp[Op.operands]);exact wI L H hw h2 h4 h6 rfl rfl rfl (by simp only[bT,h1,h3,h5,Option.bind_some];rfl)
  |extract t i=>
   obtain⟨v,h1,h2⟩:=gA (E:=E) L N S jk (x:=t) (by simp[Op.operands]);simp only at hw;split at hw
   ·rename_i vs he;rw[he]at h2;obtain⟨a,rfl,h3⟩:=h2.pX;split at hw
    ·rename_i w hi;obtain⟨hK,_⟩:=dm hw;have bO:=(List.getElem?_eq_some_iff.1 hi).1;have Tu:i<a.toList.length:=by rw[←h3.1];exact bO
     obtain⟨x,hx⟩:∃x,a.toList[i]? =some x:=⟨_,List.getElem?_eq_getElem Tu⟩;exact dG.pure H (x:=x) (by simp only[aB,h1,Option.bind_some];exact hx) (h3.2 i w x hi hx) hK
    ·exact hw.elim
   ·exact hw.elim
  |call q=>
   obtain⟨callee,qg,argTypes⟩:=q;simp only at hw;split at hw
   ·rename_i b;have Tv:qg.toList.all (oZ T)=true:=by simpa[Op.operands,Call.operands]using jk
    obtain⟨vs,h1,h2⟩:=mU (E:=E) L N S Tv;exact A6 L H hw h2 h1
   ·rename_i g;have he:oZ T g=true∧qg.toList.all (oZ T)=true:=by simpa[Op.operands,Call.operands]using jk
    obtain⟨gv,h1,h2⟩:=nL (E:=E) L N S he.1;obtain⟨vs,h3,h4⟩:=mU (E:=E) L N S he.2;split at hw
    ·rename_i g' a b hg;rw[hg]at h2;cases h2 with
     |de hs ha ht hk=>
      rename_i a' k';have tW:cX c ρ F h a a'.toList:=⟨by simpa using hs,fun i t v q1 q2=>ha i t v q1 (by simpa using q2)⟩;have l6:cX c ρ F h b k'.toList:=⟨by simpa using ht,fun i t v q1 q2=>hk i t v q1 (by simpa using q2)⟩;refine HQ NX H (L.still g') hw ((tW.append h4).append l6) rfl rfl rfl ?_;simp only[bT,h3,h1,Option.bind_some]
    ·exact hw.elim
   ·exact hw.elim
  |_=>exact hw.elim
end
def zh (h:ab) (b:Nat):Prop:=(∃cs,h.rd b=some cs)∨∃ob,h.get b=some ob∧∀cs f t th,ob≠ .cells cs f t th
theorem Mem.live {X:Cx} {ρ:Gh} {F:Nat→Prop} {o:Ob} {c:Nat} {h:ab} (H:Mem X ρ F o c h) {m:Nat} {y:TO} {b:Nat} (hl:look o m=some y) (hb:xm ρ m b):zh h b:=by
 obtain⟨Sm,hO⟩:=H.bR hl;cases hO with
 |cells h1 hg ht hc=>
  rcases hb with hb|⟨z,l,hb⟩<;>rw[h1]at hb<;>cases hb
  exact .inl (⟨_,cJ (bp hg hg) ht (by unfold ab.cellsOf;rw[hg])⟩)
 |map h1 hg=>rcases hb with hb|⟨z,l,hb⟩<;>rw[h1]at hb<;>cases hb;exact .inr ⟨_,hg,by simp⟩
 |eC h1 hg=>rcases hb with hb|⟨z,l,hb⟩<;>rw[h1]at hb<;>cases hb;exact .inr ⟨_,hg,by simp⟩
 |gK h1 hg=>rcases hb with hb|⟨z,l,hb⟩<;>rw[h1]at hb<;>cases hb;exact .inr ⟨_,hg,by simp⟩
 |nil h1=>rcases hb with hb|⟨z',l,hb⟩<;>rw[h1]at hb<;>cases hb
 |fi h1=>rcases hb with hb|⟨z',l,hb⟩<;>rw[h1]at hb<;>cases hb
 |arr h1 hg hf ht=>rcases hb with hb|⟨z',l,hb⟩<;>rw[h1]at hb<;>cases hb;exact .inl (⟨_,cJ hf ht (by unfold ab.cellsOf;rw[hg])⟩)
 |cm h1 hg hf ht=>rcases hb with hb|⟨z',l,hb⟩<;>rw[h1]at hb<;>cases hb;exact .inl (⟨_,cJ hf ht (by unfold ab.cellsOf;rw[hg])⟩)
theorem u9:∀{o:Ob} {m:Nat},m∈OS o→∃y,look o m=some y
 |[],m,h=>by simp[OS]at h
 |p::o,m,h=>by
  rw[aD];by_cases e:p.1=m
  ·exact⟨p.2,by simp[e]⟩
  ·rw[if_neg e];simp only[OS,List.mem_cons]at h;rcases h with h|h
   ·exact absurd h.symm e
   ·exact u9 h
def Ky:TV→Bool
 | .mp _=>true
 | .ptr _ _=>true
 |_=>false
def lN (ρ:Gh) (o:Ob) (h:ab):Prop:=∀n cs p v,look o n=some (.cells cs)→cs[p]? =some v→Ky v=true→∃b x,ρ n=some (.cO b)∧ah h b p 1=some [x]∧jJ ρ v x
theorem Mem.zi {X:Cx} {ρ:Gh} {F:Nat→Prop} {o:Ob} {c:Nat} {h:ab} (H:Mem X ρ F o c h):lN ρ o h:=by
 intro n cs p v hl hp hv;obtain⟨Sm,hO⟩:=H.bR hl;cases hO with
 |cells hb hg ht hc=>
  rename_i S b aE cv;obtain⟨S1,S2,S3,_,a1,a2,a3⟩:=hc.part p 1;have bO:=(List.getElem?_eq_some_iff.1 hp).1;have e1:(cs.drop p).take 1=[v]:=by
   rw[List.drop_eq_getElem_cons bO,List.take_succ_cons,List.take_zero];rw[(List.getElem?_eq_some_iff.1 hp).2]
  rw[e1]at a2;have hV:=a2.OU (fun t v hv hf=>hv.c6 hf) (by cases v<;>first|rfl |simp[Ky]at hv);obtain⟨x,m1,e2,hx,BV⟩:=hV.1.aG;obtain rfl:=BV.bu;have hlen:=hc.len;have fj:=cJ (bp hg hg) ht (au hg);refine⟨b,x,hb,?_,?_⟩
  ·unfold ah;rw[fj];simp only[Option.bind_some,aO];exact⟨by rw[List.length_drop];omega,e2.symm⟩
  ·cases v with
   |mp k=>cases hx with|mp h1=>exact .inl ⟨_,_,rfl,h1,rfl⟩
   |ptr k q=>cases hx with|ptr h1=>exact .inr ⟨_,_,_,rfl,h1,rfl⟩
   |_=>simp[Ky]at hv
inductive ru (oF:Ob):Gh→(Nat→Prop)→Ob→ab→List VN→List cg→Prop
 |nil {ρ:Gh} {F:Nat→Prop} {h:ab} (bL:lN ρ oF h):ru oF ρ F oF h [] []
 |cons {ρ ρ':Gh} {F F':Nat→Prop} {o o':Ob} {h h':ab} {l:VL} {e:cg} {ls:List VN} {es:List cg} (hl:eK ρ F o h ρ' o' h' l e) (hw:Wf h) (hs:h.size≤h'.size) (hF:∀b,F b→F' b) (cA:∀b cs,F b→h.rd b=some cs→h'.rd b=some cs)
  (Kz:∀m y b,look o m=some y→xm ρ m b→zh h b) (qE:∀k b,ρ k=some (.cO b)→ρ' k=some (.cO b)) (bL:lN ρ o h) (hr:ru oF ρ' F' o' h' ls es):ru oF ρ F o h ((l,o)::ls) (e::es)
theorem ru.next {oF:Ob} {ρ:Gh} {F:Nat→Prop} {o:Ob} {h:ab} {ls:List VN} {es:List cg} (H:ru oF ρ F o h ls es):DF oF ls=o∧lN ρ o h:=by
 cases H with
 |nil bL=>exact⟨rfl,bL⟩
 |cons _ _ _ _ _ _ _ bL _=>exact⟨rfl,bL⟩
theorem tF {h:ab} (W:Wf h) (q:RQ):oH h q=true:=by
 unfold oH;rw[bB];split
 ·rename_i hb;split
  ·rename_i f t th hg;rw[aF]at hb ⊢;have:=W.le _ _ _ _ _ hg;omega
  ·rfl
 ·rfl
theorem vd {h:ab} (W:Wf h) {q:RQ} (hn:ka q h):q.cO<h.size:=by
 cases q with
 |cells a b o n=>
  obtain⟨l,h1,_⟩:=hn;unfold ah at h1;simp only[Option.bind_eq_some_iff]at h1;obtain⟨cs,h2,_⟩:=h1;obtain⟨f,t,th,hg⟩:=qQ h2;exact W.lt hg
 |look r kd k z ok=>
  obtain⟨m,h1,_⟩:=hn;unfold dB at h1;split at h1
  ·rename_i hg;exact W.lt hg
  ·cases h1
 |len r=>
  obtain⟨m,h1,_⟩:=hn;unfold dB at h1;split at h1
  ·rename_i hg;exact W.lt hg
  ·cases h1
theorem gW {h h':ab} {q:RQ} (hn:ka q h) (hg:(∃a b o n,q= .cells a b o n)∨h'.get q.cO=h.get q.cO) (hr:∀cs,h.rd q.cO=some cs→h'.rd q.cO=some cs):ka q h'∧eD h h' q=true:=by
 cases q with
 |cells a b o n=>
  obtain⟨l,h1,h2⟩:=hn;have h3:ah h' b o n=some l:=by
   unfold ah at h1 ⊢;simp only[Option.bind_eq_some_iff]at h1 ⊢;obtain⟨cs,h4,h5⟩:=h1;exact⟨cs,hr cs h4,h5⟩
  refine⟨⟨l,h3,h2⟩,?_⟩;unfold eD;rw[Bool.or_eq_true];left;unfold jX;rw[bB];split
  ·simp only[h1,h3,h2]
  ·rfl
 |look r kd k z ok=>
  obtain⟨m,h1,h2⟩:=hn;have jy:h'.get r=h.get r:=by
   rcases hg with⟨a,b,o,n,e⟩|hg
   ·cases e
   ·exact hg
  have h3:dB h' r=some m:=by unfold dB at h1 ⊢;rw[jy];exact h1
  refine⟨⟨m,h3,h2⟩,?_⟩;unfold eD;rw[Bool.or_eq_true];left;unfold jX;rw[bB];split
  ·simp only[h1,h3,h2]
  ·rfl
 |len r=>
  obtain⟨m,h1,h2⟩:=hn;have jy:h'.get r=h.get r:=by
   rcases hg with⟨a,b,o,n,e⟩|hg
   ·cases e
   ·exact hg
  have h3:dB h' r=some m:=by unfold dB at h1 ⊢;rw[jy];exact h1
  refine⟨⟨m,h3,h2⟩,?_⟩;unfold eD;rw[Bool.or_eq_true];left;unfold jX;rw[bB];split
  ·simp only[h1,h3,h2]
  ·rfl
theorem fK (h:ab) (q:RQ):eD h h q=true:=by
 unfold eD;rw[Bool.or_eq_true];exact .inr (decide_eq_true (inst:=Classical.propDecidable _) rfl)
section
variable {bs:List Nat} {i:Nat} {oF:Ob}
theorem qh:∀{ls:List VN} {j:Nat},eF bs oF j ls=true→∀l∈ls,l.1≠ .bad
 |[],_,_,l,hl=>by simp at hl
 |x::ls,j,hd,l,hl=>by
  have key:eF bs oF (j+1) ls=true∧x.1≠ .bad:=by
   obtain⟨x,nm⟩:=x;cases x<;>simp only[eF,Bool.and_eq_true]at hd
   ·exact⟨hd,by simp⟩
   ·exact⟨hd,by simp⟩
   ·exact⟨hd,by simp⟩
   ·exact⟨hd.2,by simp⟩
   ·exact⟨hd.2,by simp⟩
   ·exact⟨hd.2,by simp⟩
   ·exact⟨hd.2,by simp⟩
   ·exact⟨hd.2,by simp⟩
   ·cases hd
  rcases List.mem_cons.1 hl with rfl |h1
  ·exact key.2
  ·exact qh key.1 l h1
theorem LO {q:RQ} (hc:∃a b o n,q= .cells a b o n) {tR:ab}:∀{ls:List VN} {es:List cg} {ρ:Gh} {F:Nat→Prop} {o:Ob} {h:ab} {j:Nat},ru oF ρ F o h ls es→(∀l∈ls,l.1≠ .bad)→F q.cO→ka q h→bQ bs i (.rd q tR) j es=true
 |_,_,ρ,F,_,h,j,.nil _,_,_,_=>rfl
 |_,_,ρ,F,o,h,j,.cons (h':=h') (l:=l) (e:=e) hl hw hs hF cA Kz qE bL hr,k8,Qq,hn=>by
  obtain⟨k1,k2⟩:=gW (h':=h') hn (.inl hc) (fun cs=>cA _ cs Qq);have ih:=LO hc (tR:=tR) (j:=j+1) hr (fun l hl=>k8 l (List.mem_cons_of_mem _ hl)) (hF _ Qq) k1;simp only[bQ,Bool.and_eq_true];refine⟨?_,ih⟩;cases hl with
  |pure=>rfl
  |alloc=>exact tF hw q
  |DB=>rfl
  |jR=>rfl
  |wx=>rfl
  |ck=>simp[aN,k2]
  |mi hr hh=>subst hh;simp[aN,fK]
  |mj=>simp[aN,k2]
  |bad=>exact absurd rfl (k8 _ List.mem_cons_self)
theorem na {q:RQ} {n:Nat} {tR:ab}:∀{ls:List VN} {es:List cg} {ρ:Gh} {F:Nat→Prop} {o:Ob} {h:ab} {j:Nat} {dh:Bool},ru oF ρ F o h ls es→(∀l∈ls,l.1≠ .bad)→mR bs i n j ls dh=true→
 (dh=false→(∃y,look o n=some y)∧xm ρ n q.cO∧ka q h)→bQ bs i (.rd q tR) j es=true
 |_,_,ρ,F,_,h,j,dh,.nil _,_,_,_=>rfl
 |_,_,ρ,F,o,h,j,dh,.cons (ρ':=ρ') (o':=o') (h':=h') (l:=l) (e:=e) (ls:=ls) hl hw hs hF cA Kz qE bL hr,k8,hp,ht=>by
  have b9:∀l∈ls,l.1≠ .bad:=fun l hl=>k8 l (List.mem_cons_of_mem _ hl)
  -- an operation that leaves the object alone
  have quiet:∀ns,Raw ρ o h ρ' o' h' ns→n∉ns→dh=false→((∃y,look o' n=some y)∧xm ρ' n q.cO∧ka q h')∧eD h h' q=true:=by
   intro ns bn tX hd;obtain⟨⟨y,hy⟩,Tw,hn⟩:=ht hd;obtain⟨⟨y',r1⟩,r2,r3⟩:=bn n y hy tX;obtain⟨r4,r5⟩:=r3 _ Tw;obtain⟨k1,k2⟩:=gW hn (.inr r4) r5;exact⟨⟨⟨y',r1⟩,by unfold xm at Tw ⊢;rw[r2];exact Tw,k1⟩,k2⟩
  simp only[bQ,Bool.and_eq_true];cases hl with
  |pure bn=>exact⟨rfl,na hr b9 hp fun hd=>(quiet _ bn (by simp) hd).1⟩
  |alloc bn=>exact⟨tF hw q,na hr b9 hp fun hd=>(quiet _ bn (by simp) hd).1⟩
  |DB bn=>exact⟨rfl,na hr b9 hp fun hd=>(quiet _ bn (by simp) hd).1⟩
  |jR bn=>exact⟨rfl,na hr b9 hp fun hd=>(quiet _ bn (by simp) hd).1⟩
  |wx bn=>exact⟨rfl,na hr b9 hp fun hd=>(quiet _ bn (by simp) hd).1⟩
  |ck bn=>
   rename_i ns;simp only[mR]at hp;split at hp
   ·rename_i hc;simp only[Bool.and_eq_true]at hp;exact⟨by simp[aN,hp.1],na hr b9 hp.2 fun hd=>by cases hd⟩
   ·rename_i hc;have hd:dh=false:=by cases dh<;>simp_all
    have tX:n∉ns:=by subst hd;simpa using hc
    obtain⟨q1,q2⟩:=quiet _ bn tX hd;exact⟨by simp[aN,q2],na hr b9 hp fun _=>q1⟩
  |mi bn hh=>
   rename_i ns;subst hh;simp only[mR]at hp;refine⟨by simp[aN,fK],na hr b9 hp fun hd=>?_⟩;simp only[Bool.or_eq_false_iff]at hd;exact(quiet _ bn (by simpa using hd.2) hd.1).1
  |mj bn=>
   simp only[mR]at hp;split at hp
   ·simp only[Bool.and_eq_true]at hp;exact⟨by simp[aN,hp.1],na hr b9 hp.2 fun hd=>by cases hd⟩
   ·obtain⟨q1,q2⟩:=quiet _ bn (by simp) rfl;exact⟨by simp[aN,q2],na hr b9 hp fun _=>q1⟩
  |bad=>exact absurd rfl (k8 _ List.mem_cons_self)
theorem jJ.bf {ρ ρ':Gh} {v:TV} {x:Value} (H:jJ ρ v x) (hk:∀k b,ρ k=some (.cO b)→ρ' k=some (.cO b)):jJ ρ' v x:=by
 rcases H with⟨k,b,h1,h2,h3⟩|⟨k,q,b,h1,h2,h3⟩
 ·exact .inl ⟨k,b,h1,hk _ _ h2,h3⟩
 ·exact .inr ⟨k,q,b,h1,hk _ _ h2,h3⟩
theorem jJ.uniq {ρ:Gh} {v:TV} {x y:Value} (H:jJ ρ v x) (K:jJ ρ v y):x=y:=by
 rcases H with⟨k,b,rfl,h2,rfl⟩|⟨k,q,b,rfl,h2,rfl⟩<;>rcases K with⟨k',b',e,k2,rfl⟩|⟨k',q',b',e,k2,rfl⟩<;>cases e<;>rw[h2]at k2<;>cases k2<;>rfl
theorem jJ.zB {ρ:Gh} {v:TV} {x:Value} (H:jJ ρ v x):dL [x] [x]=true∧Ky v=true:=by
 rcases H with⟨k,b,rfl,h2,rfl⟩|⟨k,q,b,rfl,h2,rfl⟩<;>exact⟨by simp[dL,fZ],rfl⟩
theorem xw {v w:TV} (h:yT v w=true):w=v:=by
 cases v<;>cases w<;>simp[yT]at h
 ·obtain⟨rfl,rfl⟩:=h;rfl
 ·subst h;rfl
theorem gX {n p b:Nat} {v:TV} {x:Value} {tR:ab}:∀{ls:List VN} {es:List cg} {ρ:Gh} {F:Nat→Prop} {o:Ob} {h:ab} {j:Nat} {dh:Bool},ru oF ρ F o h ls es→(∀l∈ls,l.1≠ .bad)→kQ bs i n p v oF j ls dh=true→
 (dh=false→(∃y,look o n=some y)∧ρ n=some (.cO b)∧ah h b p 1=some [x]∧jJ ρ v x)→bQ bs i (.rd (.cells false b p 1) tR) j es=true
 |_,_,ρ,F,_,h,j,dh,.nil _,_,_,_=>rfl
 |_,_,ρ,F,o,h,j,dh,.cons (ρ':=ρ') (o':=o') (h':=h') (l:=l) (e:=e) (ls:=ls) hl hw hs hF cA Kz qE bL hr,k8,hp,ht=>by
  have b9:∀l∈ls,l.1≠ .bad:=fun l hl=>k8 l (List.mem_cons_of_mem _ hl);have same:∀{h1:ab},dh=false→ah h1 b p 1=some [x]→eD h h1 (.cells false b p 1)=true:=by
   intro h1 hd h2;obtain⟨_,_,h3,h4⟩:=ht hd;unfold eD;rw[Bool.or_eq_true];left;unfold jX;rw[bB];split
   ·simp only[h3,h2,h4.zB.1]
   ·rfl
  have quiet:∀ns,Raw ρ o h ρ' o' h' ns→n∉ns→dh=false→(∃y,look o' n=some y)∧ρ' n=some (.cO b)∧ah h' b p 1=some [x]∧jJ ρ' v x:=by
   intro ns bn tX hd;obtain⟨⟨y,hy⟩,hb,fj,hx⟩:=ht hd;obtain⟨⟨y',r1⟩,r2,r3⟩:=bn n y hy tX;obtain⟨r4,r5⟩:=r3 _ (.inl hb);refine⟨⟨y',r1⟩,qE _ _ hb,?_,hx.bf qE⟩;unfold ah at fj ⊢;simp only[Option.bind_eq_some_iff]at fj ⊢;obtain⟨cs,h4,h5⟩:=fj;exact⟨cs,r5 cs h4,h5⟩
  simp only[bQ,Bool.and_eq_true];cases hl with
  |pure bn=>exact⟨rfl,gX hr b9 hp fun hd=>quiet _ bn (by simp) hd⟩
  |alloc bn=>exact⟨tF hw _,gX hr b9 hp fun hd=>quiet _ bn (by simp) hd⟩
  |DB bn=>exact⟨rfl,gX hr b9 hp fun hd=>quiet _ bn (by simp) hd⟩
  |jR bn=>exact⟨rfl,gX hr b9 hp fun hd=>quiet _ bn (by simp) hd⟩
  |wx bn=>exact⟨rfl,gX hr b9 hp fun hd=>quiet _ bn (by simp) hd⟩
  |ck bn=>
   rename_i ns;simp only[kQ]at hp;split at hp
   ·simp only[Bool.and_eq_true]at hp;exact⟨by simp[aN,hp.1],gX (x:=x) hr b9 hp.2 fun hd=>by cases hd⟩
   ·split at hp
    ·rename_i hc;have tX:n∉ns:=by simpa using hc
     have q1:=quiet _ bn tX rfl;exact⟨by simp[aN,same rfl q1.2.2.1],gX hr b9 hp fun _=>q1⟩
    ·split at hp
     ·rename_i Nd;obtain⟨e1,e2⟩:=hr.next;rw[e1]at Nd;unfold mS at Nd;split at Nd
      ·rename_i cs v7;split at Nd
       ·rename_i w M9;obtain rfl:=xw Nd;obtain⟨_,hb,_,hx⟩:=ht rfl;obtain⟨b',x',k1,k2,k3⟩:=e2 n cs p _ v7 M9 hx.zB.2;rw[qE _ _ hb]at k1;cases k1;obtain rfl:=(hx.bf qE).uniq k3;exact⟨by simp[aN,same rfl k2],gX hr b9 hp fun _=>⟨⟨_,v7⟩,qE _ _ hb,k2,k3⟩⟩
       ·cases Nd
      ·cases Nd
     ·simp only[Bool.and_eq_true]at hp;exact⟨by simp[aN,hp.1],gX (x:=x) hr b9 hp.2 fun hd=>by cases hd⟩
  |mi bn hh=>
   rename_i ns;subst hh;simp only[kQ]at hp;refine⟨by simp[aN,fK],gX (x:=x) hr b9 hp fun hd=>?_⟩;simp only[Bool.or_eq_false_iff]at hd;exact quiet _ bn (by simpa using hd.2) hd.1
  |mj bn=>
   simp only[kQ]at hp;split at hp
   ·simp only[Bool.and_eq_true]at hp;exact⟨by simp[aN,hp.1],gX (x:=x) hr b9 hp.2 fun hd=>by cases hd⟩
   ·have q1:=quiet _ bn (by simp) rfl;exact⟨by simp[aN,same rfl q1.2.2.1],gX hr b9 hp fun _=>q1⟩
  |bad=>exact absurd rfl (k8 _ List.mem_cons_self)
def ve (ρ:Gh) (ob oa:Ob) (g g':ab):Prop:=∀m p v,mS ob m p v=true→mS oa m p v=true→∃b x,ρ m=some (.cO b)∧ah g b p 1=some [x]∧ah g' b p 1=some [x]∧jJ ρ v x
theorem ve.bf {ρ ρ':Gh} {ob oa:Ob} {g g':ab} (H:ve ρ ob oa g g') (qE:∀k b,ρ k=some (.cO b)→ρ' k=some (.cO b)):ve ρ' ob oa g g':=by
 intro m p v h1 h2;obtain⟨b,x,k1,k2,k3,k4⟩:=H m p v h1 h2;exact⟨b,x,qE _ _ k1,k2,k3,k4.bf qE⟩
theorem vf {ρ:Gh} {o:Ob} {h:ab} {m p:Nat} {v:TV} (H:lN ρ o h) (hc:mS o m p v=true):∃b x,ρ m=some (.cO b)∧ah h b p 1=some [x]∧jJ ρ v x:=by
 unfold mS at hc;split at hc
 ·rename_i cs v7;split at hc
  ·rename_i w M9;obtain rfl:=xw hc;exact H m cs p _ v7 M9 (by cases w<;>first|rfl |simp[yT]at hc)
  ·cases hc
 ·cases hc
theorem HU {ρ ρ':Gh} {ob oa:Ob} {g g':ab} (H:lN ρ ob g) (H':lN ρ' oa g') (qE:∀k b,ρ k=some (.cO b)→ρ' k=some (.cO b)):ve ρ' ob oa g g':=by
 intro m p v h1 h2;obtain⟨b,x,k1,k2,k3⟩:=vf H h1;obtain⟨b',x',l1,l2,l3⟩:=vf H' h2;rw[qE _ _ k1]at l1;cases l1;obtain rfl:=(k3.bf qE).uniq l3;exact⟨b,x,qE _ _ k1,k2,l2,l3⟩
theorem ig {g g':ab} {nm:List Nat} {ob oa:Ob}:∀{ls:List VN} {es:List cg} {ρ:Gh} {F:Nat→Prop} {o:Ob} {h:ab} {uH:List Nat} {j:Nat},ru oF ρ F o h ls es→(∀l∈ls,l.1≠ .bad)→jb bs i nm ob oa uH j ls=true→ve ρ ob oa g g'→
 (∀m∈nm,m∉uH→(∃y,look o m=some y)∧∀b,xm ρ m b→zh g b∧g'.get b=g.get b∧(∀cs,g.rd b=some cs→g'.rd b=some cs)∧h.get b=g.get b∧(∀cs,g.rd b=some cs→h.rd b=some cs))→bQ bs i (.ck g g') j es=true
 |_,_,ρ,F,_,h,uH,j,.nil _,_,_,_,_=>rfl
 |_,_,ρ,F,o,h,uH,j,.cons (ρ':=ρ') (o':=o') (h':=h') (l:=l) (e:=e) (ls:=ls) hl hw hs hF cA Kz qE bL hr,k8,hp,hB,ht=>by
  have LP:=hB.bf qE;have b9:∀l∈ls,l.1≠ .bad:=fun l hl=>k8 l (List.mem_cons_of_mem _ hl);have next:∀(ms Nf:List Nat),Raw ρ o h ρ' o' h' ms→(∀m,m∉Nf→m∉uH∧m∉ms)→∀m∈nm,m∉Nf→(∃y,look o' m=some y)∧∀b,xm ρ' m b→zh g b∧g'.get b=g.get b∧(∀cs,g.rd b=some cs→g'.rd b=some cs)∧h'.get b=g.get b∧(∀cs,g.rd b=some cs→h'.rd b=some cs):=by
   intro ms Nf bn fI m hm KA;obtain⟨q1,q2⟩:=fI m KA;obtain⟨⟨y,hy⟩,hb⟩:=ht m hm q1;obtain⟨⟨y',r1⟩,r2,r3⟩:=bn m y hy q2;refine⟨⟨y',r1⟩,fun b Qr=>?_⟩;have Qs:xm ρ m b:=by unfold xm at Qr ⊢;rw[←r2];exact Qr
   obtain⟨a1,a2,a3,a4,a5⟩:=hb b Qs;obtain⟨b1,b2⟩:=r3 b Qs;exact⟨a1,a2,a3,b1.trans a4,fun cs oi=>b2 cs (a5 cs oi)⟩
  simp only[bQ,Bool.and_eq_true];cases hl with
  |pure bn=>exact⟨rfl,ig hr b9 hp LP (next _ _ bn fun m hm=>⟨hm,by simp⟩)⟩
  |alloc bn=>exact⟨rfl,ig hr b9 hp LP (next _ _ bn fun m hm=>⟨hm,by simp⟩)⟩
  |DB bn=>simp only[jb,Bool.and_eq_true]at hp;exact⟨by simp[aN,hp.1],ig hr b9 hp.2 LP (next _ _ bn fun m hm=>⟨hm,by simp⟩)⟩
  |jR bn hh hy hb hn=>
   rename_i q m y;simp only[jb,Bool.and_eq_true,Bool.or_eq_true]at hp;refine⟨?_,ig hr b9 hp.2 LP (next _ _ bn fun m hm=>⟨hm,by simp⟩)⟩;rcases hp.1 with ho|ho
   ·simp[aN,ho]
   ·simp only[Bool.not_eq_true']at ho;have hm:m∈nm:=by simpa using ho.1
    have KA:m∉uH:=by simpa using ho.2
    obtain⟨a1,a2,a3,a4,a5⟩:=(ht m hm KA).2 _ hb;have Ty:ka q g:=by
     cases q with
     |cells a b o' n'=>
      obtain⟨l,r1,r2⟩:=hn;refine⟨l,?_,r2⟩;unfold ah at r1 ⊢;rcases a1 with⟨cs,a1⟩|⟨ob,a1,Tz⟩
      ·have:=a5 cs a1;simp only[RQ.cO]at a1 this;rw[this]at r1;rw[a1];exact r1
      ·simp only[RQ.cO]at a1 a4;exfalso;simp only[Option.bind_eq_some_iff]at r1;obtain⟨cs,r3,_⟩:=r1;obtain⟨f,t,th,r4⟩:=qQ r3;rw[a4,a1]at r4;exact Tz _ _ _ _ (Option.some.inj r4)
     |look r kd k z ok=>
      obtain⟨mm,r1,r2⟩:=hn;refine⟨mm,?_,r2⟩;simp only[RQ.cO]at a4;unfold dB at r1 ⊢;rw[←a4];exact r1
     |len r=>
      obtain⟨mm,r1,r2⟩:=hn;refine⟨mm,?_,r2⟩;simp only[RQ.cO]at a4;unfold dB at r1 ⊢;rw[←a4];exact r1
    have:=(gW Ty (.inr a2) a3).2;simp[aN,this]
  |wx bn hh hy te hx TA=>
   rename_i m p0 b0 v0 x0 y;have hb:xm ρ m (RQ.cO (.cells false b0 p0 1)):=.inl te;have hn:ka (.cells false b0 p0 1) h:=⟨_,TA,hx.zB.1⟩;simp only[jb,Bool.and_eq_true,Bool.or_eq_true]at hp;refine⟨?_,ig hr b9 hp.2 LP (next _ _ bn fun m hm=>⟨hm,by simp⟩)⟩;rcases hp.1 with (ho|ho)|ho
   ·simp[aN,ho]
   ·simp only[Bool.not_eq_true']at ho;have hm:m∈nm:=by simpa using ho.1
    have KA:m∉uH:=by simpa using ho.2
    obtain⟨a1,a2,a3,a4,a5⟩:=(ht m hm KA).2 _ hb;have Ty:ka (.cells false b0 p0 1) g:=by
     obtain⟨l,r1,r2⟩:=hn;refine⟨l,?_,r2⟩;unfold ah at r1 ⊢;rcases a1 with⟨cs,a1⟩|⟨ob,a1,Tz⟩
     ·have:=a5 cs a1;simp only[RQ.cO]at a1 this;rw[this]at r1;rw[a1];exact r1
     ·simp only[RQ.cO]at a1 a4;exfalso;simp only[Option.bind_eq_some_iff]at r1;obtain⟨cs,r3,_⟩:=r1;obtain⟨f,t,th,r4⟩:=qQ r3;rw[a4,a1]at r4;exact Tz _ _ _ _ (Option.some.inj r4)
    have:=(gW Ty (.inr a2) a3).2;simp[aN,this]
   ·obtain⟨b1,x1,k1,k2,k3,k4⟩:=hB _ _ _ ho.1 ho.2;rw[te]at k1;cases k1;obtain rfl:=hx.uniq k4;have:eD g g' (.cells false b0 p0 1)=true:=by
     unfold eD;rw[Bool.or_eq_true];left;unfold jX;rw[bB];split
     ·simp only[k2,k3,hx.zB.1]
     ·rfl
    simp[aN,this]
  |ck bn=>
   simp only[jb,Bool.and_eq_true]at hp;exact⟨by simp[aN,hp.1],ig hr b9 hp.2 LP (next _ _ bn fun m hm=>by simp only[List.mem_append,not_or]at hm;exact hm)⟩
  |mi bn hh=>
   simp only[jb,Bool.and_eq_true]at hp;exact⟨by simp[aN,hp.1],ig hr b9 hp.2 LP (next _ _ bn fun m hm=>by simp only[List.mem_append,not_or]at hm;exact hm)⟩
  |mj bn=>
   simp only[jb,Bool.and_eq_true]at hp;exact⟨by simp[aN,hp.1],ig hr b9 hp.2 LP (next _ _ bn fun m hm=>⟨hm,by simp⟩)⟩
  |bad=>exact absurd rfl (k8 _ List.mem_cons_self)
theorem lO {g:ab}:∀{ls:List VN} {es:List cg} {ρ:Gh} {F:Nat→Prop} {o:Ob} {h:ab} {j:Nat},ru oF ρ F o h ls es→(∀l∈ls,l.1≠ .bad)→pS bs i j ls=true→bQ bs i (.ck g g) j es=true
 |_,_,ρ,F,_,h,j,.nil _,_,_=>rfl
 |_,_,ρ,F,o,h,j,.cons (ls:=ls) hl hw hs hF cA Kz qE bL hr,k8,hp=>by
  have b9:∀l∈ls,l.1≠ .bad:=fun l hl=>k8 l (List.mem_cons_of_mem _ hl);simp only[bQ,Bool.and_eq_true];cases hl with
  |pure bn=>exact⟨rfl,lO hr b9 hp⟩
  |alloc bn=>exact⟨rfl,lO hr b9 hp⟩
  |DB bn=>exact⟨by simp[aN,fK],lO hr b9 hp⟩
  |jR bn=>exact⟨by simp[aN,fK],lO hr b9 hp⟩
  |wx bn=>exact⟨by simp[aN,fK],lO hr b9 hp⟩
  |ck bn=>simp only[pS,Bool.and_eq_true]at hp;exact⟨by simp[aN,hp.1],lO hr b9 hp.2⟩
  |mi bn=>simp only[pS,Bool.and_eq_true]at hp;exact⟨by simp[aN,hp.1],lO hr b9 hp.2⟩
  |mj bn=>simp only[pS,Bool.and_eq_true]at hp;exact⟨by simp[aN,hp.1],lO hr b9 hp.2⟩
  |bad=>exact absurd rfl (k8 _ List.mem_cons_self)
theorem Ng {h h':ab} (W:Wf h) (same:∀x,x<h.size→h'.get x=h.get x) {b:Nat} {cs:List Value} (hr:h.rd b=some cs):h'.rd b=some cs:=by
 obtain⟨r,h1,h2,h3⟩:=rd_some hr;obtain⟨f1,t1,tS,hg⟩:=cY h3;obtain⟨cr,gG⟩:=bz h1;obtain⟨qJ,q1,q2,iY⟩:=dj h1;rw[hg]at iY;cases iY;have a1:=same b (W.lt hg);have a2:=same r.1 (W.lt gG);exact cJ (bp (a1.trans hg) (a2.trans gG)) h2 (au (a1.trans hg))
theorem KB {h h':ab} (W:Wf h) (same:∀x,x<h.size→h'.get x=h.get x) {b:Nat} (hb:b<h.size) {cs:List Value} (hr:h'.rd b=some cs):h.rd b=some cs:=by
 obtain⟨r,h1,h2,h3⟩:=rd_some hr;obtain⟨f1,t1,tS,hg⟩:=cY h3;obtain⟨cr,gG⟩:=bz h1;obtain⟨qJ,q1,q2,iY⟩:=dj h1;rw[hg]at iY;cases iY;have a1:=(same b hb).symm.trans hg;have hle:=W.le _ _ _ _ _ a1;have a2:=(same r.1 om).symm.trans gG;exact cJ (bp a1 a2) h2 (au a1)
theorem Fx {g g' h:ab} (W:Wf g) (hG:∀b,b<g.size→g'.get b=g.get b) (hq:∀b,b<g.size→h.get b=g.get b) {q:RQ} (hn:ka q h):eD g g' q=true:=by
 by_cases hb:q.cO<g.size
 ·have k1:=gW (h:=h) (h':=g) hn (.inr (hq _ hb).symm) fun cs hr=>KB W hq hb hr;exact(gW k1.1 (.inr (hG _ hb)) fun cs hr=>Ng W hG hr).2
 ·unfold eD jX;have e:Nat.blt q.cO g.size=false:=by
   cases hx:Nat.blt q.cO g.size with
   |false=>rfl
   |true=>exact absurd (aF.1 hx) hb
  rw[e];rfl
theorem lP {g g':ab} (W:Wf g) (hG:∀b,b<g.size→g'.get b=g.get b):∀{ls:List VN} {es:List cg} {ρ:Gh} {F:Nat→Prop} {o:Ob} {h:ab} {q:Bool} {j:Nat},ru oF ρ F o h ls es→(∀l∈ls,l.1≠ .bad)→iA bs i q j ls=true→
 (q=true→g.size≤h.size∧∀b,b<g.size→h.get b=g.get b)→bQ bs i (.ck g g') j es=true
 |_,_,ρ,F,_,h,q,j,.nil _,_,_,_=>rfl
 |_,_,ρ,F,o,h,q,j,.cons (ls:=ls) hl hw hs hF cA Kz qE bL hr,k8,hp,hq=>by
  have b9:∀l∈ls,l.1≠ .bad:=fun l hl=>k8 l (List.mem_cons_of_mem _ hl);simp only[bQ,Bool.and_eq_true];have TB:∀{x:RQ},(q||ordered bs i j)=true→ka x h→aN bs i (.ck g g') j (.rd x h)=true:=fun {x} ho hn=>by
   rcases Bool.or_eq_true _ _▸ho with e|e
   ·simp[aN,Fx W hG (hq e).2 hn]
   ·simp[aN,e]
  cases hl with
  |pure bn hh=>subst hh;exact⟨rfl,lP W hG hr b9 hp hq⟩
  |alloc bn=>exact⟨rfl,lP W hG hr b9 (q:=false) hp fun e=>by cases e⟩
  |DB bn hh Qq hc hn=>subst hh;simp only[iA,Bool.and_eq_true]at hp;exact⟨TB hp.1 hn,lP W hG hr b9 hp.2 hq⟩
  |jR bn hh hy hb hn=>subst hh;simp only[iA,Bool.and_eq_true]at hp;exact⟨TB hp.1 hn,lP W hG hr b9 hp.2 hq⟩
  |wx bn hh hy hb hx fj=>subst hh;simp only[iA,Bool.and_eq_true]at hp;exact⟨TB hp.1 ⟨_,fj,hx.zB.1⟩,lP W hG hr b9 hp.2 hq⟩
  |ck bn=>simp only[iA,Bool.and_eq_true]at hp;exact⟨by simp[aN,hp.1],lP W hG hr b9 (q:=false) hp.2 fun e=>by cases e⟩
  |mi bn hh=>subst hh;simp only[iA,Bool.and_eq_true]at hp;exact⟨by simp[aN,hp.1],lP W hG hr b9 hp.2 hq⟩
  |mj bn WD=>
   simp only[iA,Bool.and_eq_true]at hp;exact⟨by simp[aN,hp.1],lP W hG hr b9 hp.2 fun e=>⟨Nat.le_trans (hq e).1 hs,fun b hb=>(WD b (Nat.lt_of_lt_of_le hb (hq e).1)).trans ((hq e).2 b hb)⟩⟩
  |bad=>exact absurd rfl (k8 _ List.mem_cons_self)
theorem A9:∀{es:List cg} {j:Nat},bQ bs i .pure j es=true
 |[],_=>rfl
 |e::es,j=>by simp only[bQ,Bool.and_eq_true];exact⟨by cases e<;>rfl,A9⟩
theorem xy {g g':ab} (W:Wf g):∀{es:List cg} {j:Nat},bQ bs i (.alloc g g') j es=true
 |[],_=>rfl
 |e::es,j=>by
  simp only[bQ,Bool.and_eq_true];exact⟨by cases e<;>first|rfl |exact tF W _,xy W⟩
theorem eX:∀{ls:List VN} {es:List cg} {ρ:Gh} {F:Nat→Prop} {o:Ob} {h:ab} {j:Nat},ru oF ρ F o h ls es→eF bs oF j ls=true→fv bs j es=true
 |_,_,ρ,F,_,h,j,.nil _,_=>rfl
 |_,_,ρ,F,o,h,j,.cons (h':=h') (l:=l) (e:=e) (ls:=ls) hl hw hs hF cA Kz qE bL hr,hd=>by
  have k8:=qh hd;have b9:∀l∈ls,l.1≠ .bad:=fun l hl=>k8 l (List.mem_cons_of_mem _ hl);simp only[fv,Bool.and_eq_true];cases hl with
  |pure=>exact⟨⟨rfl,A9⟩,eX hr hd⟩
  |alloc=>exact⟨⟨rfl,xy hw⟩,eX hr hd⟩
  |DB bn hh Qq hc hn=>subst hh;exact⟨⟨by simp only[ko,aF];exact vd hw hn,LO hc hr b9 (hF _ Qq) hn⟩,eX hr hd⟩
  |jR bn hh hy hb hn=>
   subst hh;simp only[eF,Bool.and_eq_true]at hd;refine⟨⟨by simp only[ko,aF];exact vd hw hn,na hr b9 hd.1 fun _=>?_⟩,eX hr hd.2⟩;obtain⟨⟨y',r1⟩,r2,_⟩:=bn _ _ hy (by simp);exact⟨⟨y',r1⟩,by unfold xm at hb ⊢;rw[r2];exact hb,hn⟩
  |wx bn hh hy hb hx fj=>
   rename_i nn pp bb vv xx yy;subst hh;simp only[eF,Bool.and_eq_true]at hd;have hn:ka (.cells false _ _ 1) _:=⟨_,fj,hx.zB.1⟩;refine⟨⟨by simp only[ko,aF];exact vd hw hn,gX (x:=xx) hr b9 hd.1 fun _=>?_⟩,eX hr hd.2⟩;obtain⟨⟨y',r1⟩,r2,_⟩:=bn _ _ hy (by simp);exact⟨⟨y',r1⟩,qE _ _ hb,fj,hx.bf qE⟩
  |ck bn=>
   simp only[eF,Bool.and_eq_true]at hd;refine⟨⟨by simp only[ko,ax];exact hs,ig hr b9 hd.1 (by rw[hr.next.1];exact HU bL hr.next.2 qE) fun m hm KA=>?_⟩,eX hr hd.2⟩;obtain⟨y,hy⟩:=u9 hm;obtain⟨⟨y',r1⟩,r2,r3⟩:=bn m y hy KA;refine⟨⟨y',r1⟩,fun b hb=>?_⟩;have bE:xm ρ m b:=by unfold xm at hb ⊢;rw[←r2];exact hb
   obtain⟨b1,b2⟩:=r3 b bE;exact⟨Kz m y b hy bE,b1,b2,b1,b2⟩
  |mi bn hh=>
   subst hh;simp only[eF,Bool.and_eq_true]at hd;exact⟨⟨by simp only[ko,ax];exact hs,lO hr b9 hd.1⟩,eX hr hd.2⟩
  |mj bn hG=>
   simp only[eF,Bool.and_eq_true,Bool.or_eq_true]at hd;refine⟨⟨by simp only[ko,ax];exact hs,?_⟩,eX hr hd.2⟩;rcases hd.1 with wV|wV
   ·exact lP hw hG hr b9 wV fun _=>⟨hs,hG⟩
   ·refine ig hr b9 wV (by rw[hr.next.1];exact HU bL hr.next.2 qE) fun m hm KA=>?_;obtain⟨y,hy⟩:=u9 hm;obtain⟨⟨y',r1⟩,r2,r3⟩:=bn m y hy KA;refine⟨⟨y',r1⟩,fun b hb=>?_⟩;have bE:xm ρ m b:=by unfold xm at hb ⊢;rw[←r2];exact hb
    obtain⟨b1,b2⟩:=r3 b bE;exact⟨Kz m y b hy bE,b1,b2,b1,b2⟩
  |bad=>exact absurd rfl (k8 _ List.mem_cons_self)
end
section
variable {T E:Env} {X:Cx} {ρ:Gh} {F:Nat→Prop} {o:Ob} {c n:Nat} {af:AF} {f:Fr} {h:ab} {ops:List Oper}
theorem ry (p:Nat×TV) (f:Fr) (t:Nat):oT (p::f) t=if p.1=t then p.2 else oT f t:=by
 show(match Nat.beq p.1 t with|true=>p.2|false=>oT f t)=_;rw[Ay];by_cases h:p.1=t<;>simp[h]
theorem tG {d:Option Tmp} {v:TV} {x:Value} {K:Fr→Prop} (hw:pV d n v f K) (S:cU c ρ F h f af) (hn:af.n=n) (hv:VR c ρ F h v x):∃f',K f'∧cU c ρ F h f' (af.put d x)∧(af.put d x).n=n:=by
 unfold pV at hw;cases d with
 |none=>exact⟨f,hw,S,hn⟩
 |some t=>
  simp only at hw;split at hw
  ·rename_i ht;rw[aF]at ht;refine⟨_,hw,fun u=>?_,by rw[AF.Lf];exact hn⟩;rw[ry];show VR c ρ F h _ ((af.set t x).get u);rw[AF.fx];by_cases e:t=u
   ·subst e;rw[if_pos rfl,if_pos ⟨rfl,om⟩];exact hv
   ·rw[if_neg e,if_neg (fun e2=>e e2.1.symm)];exact S u
  ·exact hw.elim
theorem xz {p:Oper} {K1 K2:Prop} (hw:mT ops p f K1 K2) (S:cU c ρ F h f af):(wanted ops p af=true∧K1)∨(wanted ops p af=false∧K2):=by
 unfold mT at hw;unfold wanted;split at hw
 ·rename_i hg;rw[hg];exact .inl ⟨rfl,hw⟩
 ·rename_i j want hg;rw[hg];simp only
  split at hw
  ·exact hw.elim
  ·rename_i q hq;rw[hq];simp only[Option.bind_some];split at hw
   ·exact hw.elim
   ·rename_i t ht;rw[ht];simp only
    split at hw
    ·rename_i b hb;have:=S t;rw[hb]at this;rw[this.cM.1];simp only
     cases b<;>cases want<;>simp only at hw<;>simp[hw]
    ·rename_i hb;have:=S t;rw[hb]at this;obtain⟨a,ha,hl⟩:=this.pX;rw[ha];exact .inr ⟨rfl,hw⟩
    ·exact hw.elim
theorem zj (L:bV T E) (NX:CI E X) {K:RK}:∀(rest:List Oper) {ρ:Gh} {F:Nat→Prop} {o:Ob} {c:Nat} {f:Fr} {af:AF} {h:ab},Aw T (VC E) n ops rest f o c K→Mem X ρ F o c h→cU c ρ F h f af→af.n=n→
 ∃n0 sZ h' f' o' c' ρ' F',(∀m,n0≤m→sP E X.base (eI E X.base m) (fw X.base (aT E X.base m)) ops rest af h=some (sZ,h'))∧K f' o' c'∧Nx X ρ F o c h ρ' F' o' c' h'∧cU c' ρ' F' h' f' sZ∧sZ.n=n
 |[],ρ,F,o,c,f,af,h,hw,H,S,hn=>⟨0,af,h,f,o,c,ρ,F,fun m _=>rfl,hw,.refl H,S,hn⟩
 |p::rest,ρ,F,o,c,f,af,h,hw,H,S,hn=>by
  simp only[Aw]at hw;rcases xz hw S with⟨iy,hw⟩|⟨iy,hw⟩
  ·obtain⟨n1,r,v,o1,c1,fS,F1,lg,h1,h2,N,hv,_⟩:=HT L NX H S hw;have S1:cU c1 fS F1 r.h f af:=fun t=>N.bf _ _ (S t);obtain⟨f1,h3,S2,Kn⟩:=tG h2 S1 hn hv;obtain⟨n2,sZ,h',f',o',c',ρ',F',k1,k2,N2,k3,k4⟩:=zj L NX rest h3 N.mem S2 Kn;refine⟨max n1 n2,sZ,h',f',o',c',ρ',F',fun m hm=>?_,k2,⟨N2.mem,fun t x hx=>N2.bf t x (N.bf t x hx),Nat.le_trans N.size N2.size,fun b hb=>N2.FF b (N.FF b hb),fun b cs hb hr=>N2.cA b cs (N.FF b hb) (N.cA b cs hb hr)⟩,k3,k4⟩;unfold sP;rw[iy];simp only
   rw[h1 m om];simp only[Option.bind_some];exact k1 m om
  ·obtain⟨f1,h3,S2,Kn⟩:=tG hw S hn (show VR _ _ _ _ (.dH []) undef from .dH rfl fun i t v h=>by simp at h);obtain⟨n2,sZ,h',f',o',c',ρ',F',k1,k2,N2,k3,k4⟩:=zj L NX rest h3 H S2 Kn;refine⟨n2,sZ,h',f',o',c',ρ',F',fun m hm=>?_,k2,N2,k3,k4⟩;unfold sP;rw[iy];exact k1 m hm
theorem vg (L:bV T E) (NX:CI E X) {K:List VN→RK}:∀(rest:List Oper) {ρ:Gh} {F:Nat→Prop} {o:Ob} {c:Nat} {f:Fr} {af:AF} {h:ab} {lg:List VN},pW T (VC E) n ops rest f o c lg K→Mem X ρ F o c h→cU c ρ F h f af→af.n=n→
 ∃n0 sZ h' es f' o' c' ρ' F' ls,(∀m,n0≤m→fY E X.base (eI E X.base m) (fw X.base (aT E X.base m)) ops rest af h=some (sZ,h',es))∧K (lg++ls) f' o' c'∧Nx X ρ F o c h ρ' F' o' c' h'∧cU c' ρ' F' h' f' sZ∧sZ.n=n∧
  ru o' ρ F o h ls es
 |[],ρ,F,o,c,f,af,h,lg,hw,H,S,hn=>⟨0,af,h,[],f,o,c,ρ,F,[],fun m _=>rfl,by simpa[pW]using hw,.refl H,S,hn,.nil H.zi⟩
 |p::rest,ρ,F,o,c,f,af,h,lg,hw,H,S,hn=>by
  simp only[pW]at hw;rcases xz hw S with⟨iy,hw⟩|⟨iy,hw⟩
  ·obtain⟨n1,r,v,o1,c1,fS,F1,l,h1,h2,N,hv,jV⟩:=HT L NX H S hw;have S1:cU c1 fS F1 r.h f af:=fun t=>N.bf _ _ (S t);obtain⟨f1,h3,S2,Kn⟩:=tG h2 S1 hn hv;obtain⟨n2,sZ,h',es,f',o',c',ρ',F',ls,k1,k2,N2,k3,k4,k5⟩:=vg L NX rest h3 N.mem S2 Kn
   refine⟨max n1 n2,sZ,h',r.log::es,f',o',c',ρ',F',(l,o)::ls,fun m hm=>?_,by simpa using k2,⟨N2.mem,fun t x hx=>N2.bf t x (N.bf t x hx),Nat.le_trans N.size N2.size,fun b hb=>N2.FF b (N.FF b hb),fun b cs hb hr=>N2.cA b cs (N.FF b hb) (N.cA b cs hb hr)⟩,k3,k4,
    .cons jV H.wf N.size N.FF N.cA (fun m y b hy hb=>H.live hy hb) (fun k b hk=>by cases N.bf _ _ (VR.mp (c:=c) (F:=F) (h:=h) hk)with|mp h'=>exact h') H.zi k5⟩
   unfold fY;rw[iy];simp only
   rw[h1 m om];simp only[Option.bind_some];rw[k1 m om];rfl
  ·obtain⟨f1,h3,S2,Kn⟩:=tG hw S hn (show VR _ _ _ _ (.dH []) undef from .dH rfl fun i t v h=>by simp at h);obtain⟨n2,sZ,h',es,f',o',c',ρ',F',ls,k1,k2,N2,k3,k4,k5⟩:=vg L NX rest h3 H S2 Kn;refine⟨n2,sZ,h',.pure::es,f',o',c',ρ',F',(.pure,o)::ls,fun m hm=>?_,by simpa using k2,N2,k3,k4,.cons (.pure (.refl _) rfl) H.wf (Nat.le_refl _) (fun _ h=>h) (fun _ _ _ hr=>hr) (fun m y b hy hb=>H.live hy hb) (fun _ _ h=>h) H.zi k5⟩;unfold fY;rw[iy];simp only
   rw[k1 m hm];rfl
end
section
variable {T E:Env} {X:Cx} {n:Nat}
theorem HV {ids:List (Option Nat)} {o:Ob} {f f1:Fr} {t:Nat} (L:OQ ids o f f1):RF ids o (oT f t) (oT f1 t)∨oT f1 t= .j:=by
 induction L with
 |nil=>exact .inr rfl
 |cons h _ ih=>
  rw[ry];split
  ·rename_i e;subst e;exact .inl h
  ·exact ih
theorem adapt {ρ:Gh} {F:Nat→Prop} {o:Ob} {c:Nat} {f:Fr} {af:AF} {h:ab} (H:Mem X ρ F o c h) (S:cU c ρ F h f af) {sh:List Nat} {ids:List (Option Nat)} {U:List Nat} {f1:Fr} {o1:Ob} (hi:(gI c ids&&ow X.c0 0 ids&&lH ids U)=true)
 (hf:OQ ids (ct sh o) f f1) (ho:E2 ids (ct sh o) U o1):∃ρ' F',Mem X ρ' F' o1 ids.length h∧cU ids.length ρ' F' h f1 af:=by
 simp only[Bool.and_eq_true]at hi;obtain⟨F1,S1⟩:=mZ H sh;refine⟨_,F1,S1.mem.le hi.1.1 hi.1.2 hi.2 ho,fun t=>?_⟩;rcases HV (t:=t) hf with h1|h1
 ·exact p9 S1.mem _ _ _ h1 (S1.bf _ _ (S t))
 ·rw[h1];exact .j _
def kV (E:Env) (base:Nat) (code:Code) (af:AF) (h:ab) (r:Ex×AF×ab):Prop:=∃n0,∀m,n0≤m→aT E base m code af h=some r
def Comes (E:Env) (X:Cx) (n:Nat) (code:Code) (af:AF) (h:ab) (Q:CK):Prop:=
 ∃ex sZ h' f' o' c' ρ' F',kV E X.base code af h (ex,sZ,h')∧Q ex f' o' c'∧Mem X ρ' F' o' c' h'∧cU c' ρ' F' h' f' sZ∧sZ.n=n
theorem kV.TC {a b:Code} {af me:AF} {h h1:ab} {r:Ex×AF×ab} {base:Nat} (A:kV E base a af h (.normal,me,h1)) (B:kV E base b me h1 r):kV E base (.seq a b) af h r:=by
 obtain⟨n1,A⟩:=A;obtain⟨n2,B⟩:=B;refine⟨max n1 n2+1,fun m hm=>?_⟩;obtain⟨k,rfl⟩:∃k,m=k+1:=⟨m - 1,om⟩;simp only[aT];rw[A k om];exact B k om
theorem kV.Qt {a b:Code} {af me:AF} {h h1:ab} {ex:Ex} {base:Nat} (A:kV E base a af h (ex,me,h1)) (hx:ex≠ .normal):kV E base (.seq a b) af h (ex,me,h1):=by
 obtain⟨n1,A⟩:=A;refine⟨n1+1,fun m hm=>?_⟩;obtain⟨k,rfl⟩:∃k,m=k+1:=⟨m - 1,om⟩;simp only[aT];rw[A k om];cases ex<;>first|rfl |exact absurd rfl hx
theorem kV.LQ {b:Code} {af me:AF} {h h1:ab} {r:Ex×AF×ab} {base:Nat} (A:kV E base b af h (.normal,me,h1)) (B:kV E base (.loop b) me h1 r):kV E base (.loop b) af h r:=by
 obtain⟨n1,A⟩:=A;obtain⟨n2,B⟩:=B;refine⟨max n1 n2+1,fun m hm=>?_⟩;obtain⟨k,rfl⟩:∃k,m=k+1:=⟨m - 1,om⟩;simp only[aT];rw[A k om];exact B k om
theorem kV.DZ {b:Code} {af me:AF} {h h1:ab} {ex:Ex} {base:Nat} (A:kV E base b af h (ex,me,h1)) (hx:ex≠ .normal):kV E base (.loop b) af h (ex,me,h1):=by
 obtain⟨n1,A⟩:=A;refine⟨n1+1,fun m hm=>?_⟩;obtain⟨k,rfl⟩:∃k,m=k+1:=⟨m - 1,om⟩;simp only[aT];rw[A k om];cases ex<;>first|rfl |exact absurd rfl hx
theorem kV.one {c:Code} {af:AF} {h:ab} {r:Ex×AF×ab} {base:Nat} (hx:∀k,aT E base (k+1) c af h=some r):kV E base c af h r:=
 ⟨1,fun m hm=>by obtain⟨k,rfl⟩:∃k,m=k+1:=⟨m - 1,om⟩;exact hx k⟩
theorem nQ {ρ:Gh} {F:Nat→Prop} {o:Ob} {c:Nat} {f:Fr} {af:AF} {h:ab} {K:RK} (H:Mem X ρ F o c h) (S:cU c ρ F h f af) (ht:gS X.c0 f o c K):∃f1 o1 c1 ρ' F',K f1 o1 c1∧Mem X ρ' F' o1 c1 h∧cU c1 ρ' F' h f1 af:=by
 obtain⟨sh,ids,U,f1,o1,⟨hf,ho,hi⟩,hK⟩:=ht;obtain⟨ρ',F',H',S'⟩:=adapt H S hi hf ho;exact⟨f1,o1,_,ρ',F',hK,H',S'⟩
theorem Qu {c5:List Nat} (L:bV T E) (NX:CI E X):∀(code:Code) {ρ:Gh} {F:Nat→Prop} {o:Ob} {c:Nat} {f:Fr} {af:AF} {h:ab} {Q:CK},wp T (VC E) n X.c0 c5 code f o c Q→Mem X ρ F o c h→cU c ρ F h f af→af.n=n→Comes E X n code af h Q:=by
 intro code
 induction code with
 |skip=>intro ρ F o c f af h Q hw H S hn;exact⟨.normal,af,h,f,o,c,ρ,F,.one fun k=>rfl,hw,H,S,hn⟩
 |exit id=>intro ρ F o c f af h Q hw H S hn;exact⟨.exit id,af,h,f,o,c,ρ,F,.one fun k=>rfl,hw,H,S,hn⟩
 |ret=>intro ρ F o c f af h Q hw H S hn;exact⟨.ret,af,h,f,o,c,ρ,F,.one fun k=>rfl,hw,H,S,hn⟩
 |region id ops draw=>
  intro ρ F o c f af h Q hw H S hn;simp only[wp]at hw;cases draw with
  |false=>
   obtain⟨n0,sZ,h',f',o',c',ρ',F',k1,k2,N,k3,k4⟩:=zj L NX ops.toList hw H S hn;refine⟨.normal,sZ,h',f',o',c',ρ',F',⟨n0+1,fun m hm=>?_⟩,k2,N.mem,k3,k4⟩;obtain⟨k,rfl⟩:∃k,m=k+1:=⟨m - 1,om⟩;simp only[aT,jY];have:=k1 k om;unfold eI at this;rw[this];rfl
  |true=>
   simp only at hw;split at hw
   ·rename_i bA;obtain⟨n0,sZ,h',es,f',o',c',ρ',F',ls,k1,k2,N,k3,k4,k5⟩:=vg L NX ops.toList hw H S hn;simp only[List.nil_append]at k2;split at k2
    ·rename_i hd;refine⟨.normal,sZ,h',f',o',c',ρ',F',⟨n0+1,fun m hm=>?_⟩,k2,N.mem,k3,k4⟩;obtain⟨k,rfl⟩:∃k,m=k+1:=⟨m - 1,om⟩;simp only[aT,jY];have:=k1 k om;unfold eI at this;rw[hn,bA,this];simp only[aW,Option.bind_some];rw[eX k5 hd]
    ·exact k2.elim
   ·exact hw.elim
 |seq a b Qv Qw=>
  intro ρ F o c f af h Q hw H S hn;simp only[wp]at hw;obtain⟨ex,me,h1,f1,o1,c1,fS,F1,r1,q1,H1,S1,n1⟩:=Qv hw H S hn;cases ex with
  |normal=>
   obtain⟨Nh,WE,h2,f2,o2,c2,O2,F2,r2,q2,H2,S2,n2⟩:=Qw q1 H1 S1 n1;exact⟨Nh,WE,h2,f2,o2,c2,O2,F2,r1.TC r2,q2,H2,S2,n2⟩
  |exit id=>exact⟨.exit id,me,h1,f1,o1,c1,fS,F1,r1.Qt (by simp),q1,H1,S1,n1⟩
  |ret=>exact⟨.ret,me,h1,f1,o1,c1,fS,F1,r1.Qt (by simp),q1,H1,S1,n1⟩
 |cond q t e Qx Qy=>
  intro ρ F o c f af h Q hw H S hn;simp only[wp]at hw;split at hw
  ·exact hw.elim
  ·rename_i jk;obtain⟨v,h1,h2⟩:=nL (E:=E) L ((NX.now H).sub L) S jk;split at hw
   ·rename_i b hb;rw[hb]at h2;have:=h2.cM.1;subst this;have key:∀{x:Code} {r:Ex×AF×ab},kV E X.base x af h r→(∀k,aT E X.base (k+1) (.cond q t e) af h=aT E X.base k x af h)→kV E X.base (.cond q t e) af h r:=by
     rintro x r ⟨n0,hr⟩ hk;refine⟨n0+1,fun m hm=>?_⟩;obtain⟨k,rfl⟩:∃k,m=k+1:=⟨m - 1,om⟩;rw[hk];exact hr k om
    split at hw
    ·obtain⟨ex,me,tf,f1,o1,c1,fS,F1,r1,q1,H1,S1,n1⟩:=Qx hw H S hn;exact⟨ex,me,tf,f1,o1,c1,fS,F1,key r1 fun k=>by simp only[aT,h1,Option.bind_some,sN],q1,H1,S1,n1⟩
    ·obtain⟨ex,me,tf,f1,o1,c1,fS,F1,r1,q1,H1,S1,n1⟩:=Qy hw H S hn;exact⟨ex,me,tf,f1,o1,c1,fS,F1,key r1 fun k=>by simp only[aT,h1,Option.bind_some,sN],q1,H1,S1,n1⟩
   ·exact hw.elim
 |block id b ih=>
  intro ρ F o c f af h Q hw H S hn;simp only[wp]at hw
  have key:∀{n0:Nat} {Nh:Ex} {me:AF} {h1:ab},(∀k,n0≤k→aT E X.base (k+1) (.block id b) af h=some (Nh,me,h1))→kV E X.base (.block id b) af h (Nh,me,h1):=fun {n0} {Nh} {me} {h1} hk=>
   ⟨n0+1,fun m hm=>by obtain⟨k,rfl⟩:∃k,m=k+1:=⟨m - 1,om⟩;exact hk k om⟩
  split at hw
  ·obtain⟨ex,me,h1,f1,o1,c1,fS,F1,⟨n0,r1⟩,q1,H1,S1,n1⟩:=ih hw H S hn;cases ex with
   |normal=>exact⟨.normal,me,h1,f1,o1,c1,fS,F1,key (n0:=n0) fun k hk=>by simp only[aT,r1 k hk],q1,H1,S1,n1⟩
   |ret=>exact⟨.ret,me,h1,f1,o1,c1,fS,F1,key (n0:=n0) fun k hk=>by simp only[aT,r1 k hk],q1,H1,S1,n1⟩
   |exit jl=>
    simp only at q1;split at q1
    ·rename_i hid;exact⟨.normal,me,h1,f1,o1,c1,fS,F1,key (n0:=n0) fun k hk=>by simp only[aT,r1 k hk,hid,cond_true],q1,H1,S1,n1⟩
    ·rename_i hid;exact⟨.exit jl,me,h1,f1,o1,c1,fS,F1,key (n0:=n0) fun k hk=>by simp only[aT,r1 k hk,hid,cond_false],q1,H1,S1,n1⟩
  ·obtain⟨Gr,hw,Qz⟩:=hw;obtain⟨ex,me,h1,f1,o1,c1,fS,F1,⟨n0,r1⟩,q1,H1,S1,n1⟩:=ih hw H S hn;cases ex with
   |normal=>
    obtain⟨f2,o2,c2,O2,F2,hM,H2,S2⟩:=nQ H1 S1 q1;exact⟨.normal,me,h1,f2,o2,c2,O2,F2,key (n0:=n0) fun k hk=>by simp only[aT,r1 k hk],Qz _ _ _ hM,H2,S2,n1⟩
   |ret=>exact⟨.ret,me,h1,f1,o1,c1,fS,F1,key (n0:=n0) fun k hk=>by simp only[aT,r1 k hk],q1,H1,S1,n1⟩
   |exit jl=>
    simp only at q1;split at q1
    ·rename_i hid;obtain⟨f2,o2,c2,O2,F2,hM,H2,S2⟩:=nQ H1 S1 q1;exact⟨.normal,me,h1,f2,o2,c2,O2,F2,key (n0:=n0) fun k hk=>by simp only[aT,r1 k hk,hid,cond_true],Qz _ _ _ hM,H2,S2,n1⟩
    ·rename_i hid;exact⟨.exit jl,me,h1,f1,o1,c1,fS,F1,key (n0:=n0) fun k hk=>by simp only[aT,r1 k hk,hid,cond_false],q1,H1,S1,n1⟩
 |loop b ih=>
  intro ρ F o c f af h Q hw H S hn;simp only[wp]at hw;split at hw;rotate_left
  ·have main:∀(k:Nat) {ρ:Gh} {F:Nat→Prop} {o:Ob} {c:Nat} {f:Fr} {af:AF} {h:ab},xg (fun f o c Q=>wp T (VC E) n X.c0 c5 b f o c Q) k f o c Q→Mem X ρ F o c h→cU c ρ F h f af→af.n=n→Comes E X n (.loop b) af h Q:=by
    intro k
    induction k with
    |zero=>intro ρ F o c f af h hw;exact hw.elim
    |succ k TD=>
     intro ρ F o c f af h hw H S hn;simp only[xg]at hw;obtain⟨ex,me,h1,f1,o1,c1,fS,F1,r1,q1,H1,S1,n1⟩:=ih hw H S hn;cases ex with
     |normal=>
      obtain⟨ex,TE,h3,f3,o3,c3,TF,F3,r3,q3,H3,S3,n3⟩:=TD q1 H1 S1 n1;exact⟨ex,TE,h3,f3,o3,c3,TF,F3,r1.LQ r3,q3,H3,S3,n3⟩
     |exit id=>exact⟨.exit id,me,h1,f1,o1,c1,fS,F1,r1.DZ (by simp),q1,H1,S1,n1⟩
     |ret=>exact⟨.ret,me,h1,f1,o1,c1,fS,F1,r1.DZ (by simp),q1,H1,S1,n1⟩
   exact main 64 hw H S hn
  obtain⟨Inv,⟨k0,hI⟩,iE⟩:=hw;obtain⟨f1,o1,c1,fS,F1,WG,H1,S1⟩:=nQ H S hI;have main:∀(k:Nat) {ρ:Gh} {F:Nat→Prop} {o:Ob} {c:Nat} {f:Fr} {af:AF} {h:ab},Inv k f o c→Mem X ρ F o c h→cU c ρ F h f af→af.n=n→Comes E X n (.loop b) af h Q:=by
   intro k
   induction k using Nat.strongRecOn with
   |ind k TD=>
    intro ρ F o c f af h hI H S hn;obtain⟨ex,me,h1,f1,o1,c1,fS,F1,r1,q1,H1,S1,n1⟩:=ih (iE k f o c hI) H S hn;cases ex with
    |normal=>
     obtain⟨k',ht,bO⟩:=q1;obtain⟨f2,o2,c2,O2,F2,WH,H2,S2⟩:=nQ H1 S1 ht;obtain⟨ex,TE,h3,f3,o3,c3,TF,F3,r3,q3,H3,S3,n3⟩:=TD k' bO WH H2 S2 n1;exact⟨ex,TE,h3,f3,o3,c3,TF,F3,r1.LQ r3,q3,H3,S3,n3⟩
    |exit id=>exact⟨.exit id,me,h1,f1,o1,c1,fS,F1,r1.DZ (by simp),q1,H1,S1,n1⟩
    |ret=>exact⟨.ret,me,h1,f1,o1,c1,fS,F1,r1.DZ (by simp),q1,H1,S1,n1⟩
  exact main k0 WG H1 S1 hn
 |_=>intro ρ F o c f af h Q hw H S hn;exact hw.elim
end
section
variable {T E:Env} {X:Cx} {ρ:Gh} {F:Nat→Prop} {o:Ob} {c n:Nat} {f:Fr} {af:AF} {h:ab}
theorem o9:∀(l:List Value) (i:Nat) (f:AF) (t:Nat),(AF.mr l i f).get t=(if i≤t∧t<i+l.length∧t<f.n then(match l[t - i]? with|some v=>v|none=>undef)else f.get t)∧(AF.mr l i f).n=f.n
 |[],i,f,t=>by
  refine⟨?_,rfl⟩;rw[if_neg (by simp only[List.length_nil];omega)];rfl
 |v::l,i,f,t=>by
  simp only[AF.mr];obtain⟨h1,h2⟩:=o9 l (i+1) (f.set i v) t;rw[AF.rV]at h1 h2;refine⟨?_,h2⟩;rw[h1];by_cases hx:i+1≤t∧t<i+1+l.length∧t<f.n
  ·rw[if_pos hx,if_pos (by simp only[List.length_cons];omega)];have:t - i=(t - (i+1))+1:=by omega
   rw[this,List.getElem?_cons_succ]
  ·rw[if_neg hx,AF.fx];by_cases e:t=i
   ·subst e;by_cases hn:t<f.n
    ·rw[if_pos ⟨rfl,hn⟩,if_pos (by simp only[List.length_cons];omega)];simp
    ·rw[if_neg (fun h=>hn h.2),if_neg om]
   ·rw[if_neg (fun h=>e h.1),if_neg (by simp only[List.length_cons];omega)]
theorem xA:∀(l:List TV) (i t:Nat),oT (si i l) t=if i≤t then(match l[t - i]? with|some v=>v|none=>.j)else .j
 |[],i,t=>by simp[si,oT]
 |v::l,i,t=>by
  simp only[si];rw[ry,xA l (i+1) t];by_cases e:i=t
  ·subst e;simp
  ·rw[if_neg e];by_cases hx:i+1≤t
   ·rw[if_pos hx,if_pos om];have:t - i=(t - (i+1))+1:=by omega
    rw[this,List.getElem?_cons_succ]
   ·rw[if_neg hx];by_cases hy:i≤t
    ·omega
    ·rw[if_neg hy]
theorem Ba {args:List TV} {dJ:List Value} (H:cX c ρ F h args dJ) (hn:args.length≤n):cU c ρ F h (si 0 args) (AF.enter dJ n)∧(AF.enter dJ n).n=n:=by
 refine⟨fun t=>?_,(o9 dJ 0 _ 0).2⟩;rw[xA,if_pos (Nat.zero_le _)];cases ht:args[t - 0]? with
 |none=>exact .j _
 |some v=>
  simp only
  have bO:=(List.getElem?_eq_some_iff.1 ht).1;obtain⟨x,hx⟩:∃x,dJ[t - 0]? =some x:=⟨_,List.getElem?_eq_getElem (by rw[←H.1];exact bO)⟩;have:=(o9 dJ 0 ⟨.nil,n⟩ t).1;unfold AF.enter;rw[this,if_pos ⟨Nat.zero_le _,by rw[←H.1];omega,by simp only;omega⟩,hx];exact H.2 _ _ _ ht hx
theorem vh (L:bV T E) (H:Mem X ρ F o c h) (S:cU c ρ F h f af):∀{rs:List ResultVar} {vs:List TV},Ax T f o rs=some vs→∃xs,bx E h af rs=some xs∧cX c ρ F h vs xs
 |[],vs,hv=>by simp[Ax]at hv;subst hv;exact⟨[],rfl,.nil⟩
 | .tmp t::l,vs,hv=>by
  unfold Ax at hv;split at hv
  ·rename_i ws TG;cases hv;obtain⟨xs,h1,h2⟩:=vh L H S TG;exact⟨_,by simp[bx,h1],.cons (S t) h2⟩
  ·cases hv
 | .cell a t::l,vs,hv=>by
  unfold Ax at hv;split at hv
  ·rename_i m q agg n ha hs;split at hv
   ·rename_i cs hl;split at hv
    ·rename_i w hw;split at hv
     ·rename_i v ws pn TG gJ;cases hv;obtain⟨xs,h1,h2⟩:=vh L H S TG;obtain⟨Sm,hO⟩:=H.bR hl;have hp:=S a;rw[ha]at hp;cases hO with
      |cells hb hg wi hc=>
       rename_i Sq b aE cs';cases hE:af.get a with
       |pointer p=>
        rw[hE]at hp;cases hp with
        |ptr bE=>
         rw[hb]at bE;cases bE;rw[aO]at hw;obtain⟨w1,rfl⟩:=hw;obtain⟨S1,S2,S3,_,a1,a2,a3⟩:=hc.part q n;obtain⟨k2,_⟩:=a2.OU (fun t v hv hf=>hv.c6 hf) gJ;have k1:takeN n (cs'.drop q)=some ((cs'.drop q).take n):=by
          rw[aO];have:=hc.len;simp only[List.length_drop]at w1 ⊢;exact⟨om,trivial⟩
         obtain⟨x,k3,k4⟩:=eT pn k2;have DS:M.ah h b q n=some ((cs'.drop q).take n):=by
          unfold M.ah;rw[cJ (bp hg hg) wi (au hg)];exact k1
         exact⟨x::xs,by simp[bx,hE,gF,L.shape hs,DS,k3,h1],.cons k4 h2⟩
       |_=>rw[hE]at hp;cases hp
     ·cases hv
    ·cases hv
   ·cases hv
  ·cases hv
theorem KD {vs:List TV} {xs:List Value} (H:cX c ρ F h vs xs):VR c ρ F h (MI vs) (aZ xs):=by
 match vs,xs,H with
 |[],xs,H=>rw[H.bu];exact .gi .nil
 |[v],xs,H=>
  obtain⟨x,m,rfl,h1,h2⟩:=H.aG;rw[h2.bu];exact h1
 |v::w::l,xs,H=>
  obtain⟨x,m,rfl,h1,h2⟩:=H.aG;obtain⟨y,m',rfl,h3,h4⟩:=h2.aG;exact .gi (by simpa using cX.cons h1 (.cons h3 h4))
theorem VC.Ni (L:bV T E) {g:FuncId} {fn:Func} {code:Code} {c0:Nat} {args:List TV} {o0:Ob} {R:TV→Ob→Nat→Prop} (hf:E.func g=some fn)
 (ho:∀base ρ F h S dJ,Mem (y5 base ρ F o0 c0 h S) ρ F o0 c0 h→cX c0 ρ F h args dJ→E.mn base g dJ h=none) (hb:fn.body=some code) (hlen:Nat.ble args.length fn.ntmps=true)
 (c5:List Nat) (hw:wp T (VC E) fn.ntmps c0 c5 code (si 0 args) o0 c0 (Ka T c0 fn.results.toList R)):VC E g c0 args o0 R:=by
 intro base ρ F h S0 dJ HN H HO HW;obtain⟨S,hn⟩:=Ba HW (ax.1 hlen);obtain⟨ex,sZ,h',f',o',c',ρ',F',⟨n0,hr⟩,hq,M',S',JU⟩:=Qu (X:=y5 base ρ F o0 c0 h S0) L HN code hw H S hn;unfold Ka at hq
 have fin:∀{vs:List TV} {sh:List Nat} {ids:List (Option Nat)} {U:List Nat} {r:TV} {o1:Ob},(ex= .normal∨ex= .ret)→Ax T f' o' fn.results.toList=some vs→(gI c' ids&&ow c0 0 ids&&lH ids U)=true→RF ids (ct sh o') (MI vs) r→E2 ids (ct sh o') U o1→R r o1 ids.length→
  ∃n v h2 ρ' F' r o' c',eI E base n g dJ h=some (v,h2)∧R r o' c'∧Mem (y5 base ρ F o0 c0 h S0) ρ' F' o' c' h2∧VR c' ρ' F' h2 r v:=by
  intro vs sh ids U r o1 hex JD hi hle hO hR;simp only[Bool.and_eq_true]at hi;obtain⟨xs,k1,k2⟩:=vh L M' S' JD;obtain⟨F1,S1⟩:=mZ M' sh;have M2:=S1.mem.le hi.1.1 hi.1.2 hi.2 hO;refine⟨n0,aZ xs,h',_,F1,r,o1,ids.length,?_,hR,M2,p9 S1.mem _ _ _ hle (S1.bf _ _ (KD k2))⟩;unfold eI ff;rw[hf];simp only[Option.bind_some,ho _ _ _ _ _ _ H HW,hb,←HW.1,hlen,aW];have jA:=hr n0 (Nat.le_refl _);have qC:aT E base n0 code (AF.enter dJ fn.ntmps) h=some (ex,sZ,h'):=jA;rw[qC];rcases hex with rfl |rfl<;>simp[k1]
 cases ex with
 |exit id=>exact hq.elim
 |normal=>
  simp only at hq;split at hq
  ·rename_i vs JD;obtain⟨sh,ids,U,r,o1,⟨hle,hO,hi⟩,hR⟩:=hq;exact fin (.inl rfl) JD hi hle hO hR
  ·exact hq.elim
 |ret=>
  simp only at hq;split at hq
  ·rename_i vs JD;obtain⟨sh,ids,U,r,o1,⟨hle,hO,hi⟩,hR⟩:=hq;exact fin (.inr rfl) JD hi hle hO hR
  ·exact hq.elim
theorem VC.enter (L:bV T E) {g:FuncId} {fn:Func} {code:Code} {c0:Nat} {args:List TV} {o0:Ob} {R:TV→Ob→Nat→Prop} (hf:E.func g=some fn) (ho:∀b a,E.mn b g a=fun _=>none) (hb:fn.body=some code) (hlen:Nat.ble args.length fn.ntmps=true)
 (c5:List Nat) (hw:wp T (VC E) fn.ntmps c0 c5 code (si 0 args) o0 c0 (Ka T c0 fn.results.toList R)):VC E g c0 args o0 R:=
 VC.Ni L hf (fun _ _ _ _ _ _ _ _=>congrFun (ho _ _) _) hb hlen c5 hw
theorem VC.mono {g:FuncId} {c0:Nat} {args:List TV} {o0:Ob} {R R':TV→Ob→Nat→Prop} (H:VC E g c0 args o0 R) (hR:∀r o c,R r o c→R' r o c):VC E g c0 args o0 R':=by
 intro base ρ F h S dJ hN hM hO hA;obtain⟨n,v,h',ρ',F',r,o',c',h1,h2,h3⟩:=H base ρ F h S dJ hN hM hO hA;exact⟨n,v,h',ρ',F',r,o',c',h1,hR _ _ _ h2,h3⟩
theorem VC.mn {g:FuncId} {c0:Nat} {args:List TV} {o0:Ob} {v:Value} (hf:(E.func g).isSome=true) (ho:∀b a h,a.length=args.length→E.mn b g a h=some (v,h)) (hp:ar v=true):VC E g c0 args o0 (fun r o c=>r= .s v∧o=o0∧c=c0):=by
 intro base ρ F h S dJ hN hM hO hA;obtain⟨fn,hf⟩:=Option.isSome_iff_exists.1 hf;refine⟨0,v,h,ρ,F,.s v,o0,c0,?_,⟨rfl,rfl,rfl⟩,hM,.s hp⟩;unfold eI ff;rw[hf];simp only[Option.bind_some,ho _ dJ h hA.1.symm]
end
section
variable {E:Env}
def HX (sub:TypeId→Option (List Nat)) (E:Env):List Field→Nat→Option (List Nat)
 |[],_=>some []
 |f::fs,off=>aW (f.name != "_"&&Nat.beq f.offset off)<|(sub f.type).bind fun ks=>(dA E f.type).bind fun s=>aW (Nat.beq s.2 ks.length)<|(HX sub E fs (off+ks.length)).bind fun r=>some (ks++r)
def O3 (E:Env):Nat→TypeId→Option (List Nat)
 |0,_=>none
 |d+1,t=>(E.desc t).bind fun ds=>match ds with
  | .bool=>some [1]
  | .int k=>some [fE k]
  | .string=>some [2]
  | .struct fields=>aW (E.pq t) (HX (O3 E d) E fields.toList 0)
  |_=>none
def kE:List Nat→List Value→List Value→Option Bool
 |[],[],[]=>some true
 |k::ks,v::l,w::m=>(match Nat.blt 0 k&&Nat.beq (aR v) k&&Nat.beq (aR w) k with
  |true=>(match kE ks l m with|some r=>some (EW v w&&r)|none=>none)
  |false=>none)
 |_,_,_=>none
theorem HY:∀{zs:List Value} {xs ys:List TV} {r:Bool},kA zs xs ys=some r→kE (zs.map aR) (xs.map MY) (ys.map MY)=some r
 |[],[],[],r,h=>by simpa[kA,kE]using h
 |[],[],_::_,r,h=>by simp[kA]at h
 |[],x::l,ys,r,h=>by simp[kA]at h
 |z::zs,[],ys,r,h=>by simp[kA]at h
 |z::zs,x::l,[],r,h=>by cases x<;>simp[kA]at h
 |z::zs,x::l,y::m,r,h=>by
  cases x<;>try(simp[kA]at h;done)
  rename_i v;cases y<;>try(simp[kA]at h;done)
  rename_i w;simp only[kA]at h;simp only[List.map_cons,kE];cases hc:(Nat.blt 0 (aR z)&&Nat.beq (aR v) (aR z)&&Nat.beq (aR w) (aR z))with
  |false=>rw[hc]at h;cases h
  |true=>
   rw[hc]at h;simp only at h;cases hq:kA zs l m with
   |none=>rw[hq]at h;cases h
   |some r'=>
    rw[hq]at h;have jW:(Nat.blt 0 (aR z)&&Nat.beq (aR (MY (.s v))) (aR z)&&Nat.beq (aR (MY (.s w))) (aR z))=true:=hc;rw[jW,HY hq];exact h
theorem sr:∀{ks JL:List Nat} {l l' m m':List Value},l.length=ks.length→m.length=ks.length→kE (ks++JL) (l++l') (m++m')=(kE ks l m).bind fun a=>(kE JL l' m').bind fun b=>some (a&&b)
 |[],JL,[],l',[],m',_,_=>by simp[kE]
 |k::ks,JL,v::l,l',w::m,m',h1,h2=>by
  simp only[List.cons_append,kE];rw[sr (by simpa using h1) (by simpa using h2)];split
  ·cases kE ks l m<;>cases kE JL l' m'<;>simp[Bool.and_assoc]
  ·rfl
 |[],_,_::_,_,_,_,h1,_=>by simp at h1
 |[],_,[],_,_::_,_,_,h2=>by simp at h2
 |_::_,_,[],_,_,_,h1,_=>by simp at h1
 |_::_,_,_::_,_,[],_,_,h2=>by simp at h2
theorem vi:∀{ks:List Nat} {l m:List Value} {r:Bool},kE ks l m=some r→l.length=ks.length∧m.length=ks.length
 |[],[],[],r,_=>⟨rfl,rfl⟩
 |[],[],_::_,r,h=>by simp[kE]at h
 |[],_::_,_,r,h=>by simp[kE]at h
 |_::_,[],_,r,h=>by simp[kE]at h
 |_::_,_::_,[],r,h=>by simp[kE]at h
 |k::ks,v::l,w::m,r,h=>by
  simp only[kE]at h;split at h
  ·split at h
   ·rename_i hq;obtain⟨h1,h2⟩:=vi hq;exact⟨by simp[h1],by simp[h2]⟩
   ·cases h
  ·cases h
def Nj (agg:Bool) (l:List Value):Value:=match agg,l with
 |true,l=>.agg l.toArray
 |false,v::_=>v
 |false,[]=>undef
theorem HZ (k:IntKind):3≤fE k:=by cases k<;>simp[fE]
theorem Bb {k k':IntKind} (h:fE k=fE k'):k=k':=by cases k<;>cases k'<;>simp[fE]at h<;>rfl
theorem H4:∀(d:Nat) {t:TypeId} {ks:List Nat} {l m:List Value} {r:Bool},O3 E d t=some ks→kE ks l m=some r→∃ds,E.desc t=some ds∧
 (∀s,dA E t=some s→s.1=isAgg ds)∧sO E d t (Nj (isAgg ds) l) (Nj (isAgg ds) m)=some r
 |0,t,ks,l,m,r,h,_=>by simp[O3]at h
 |d+1,t,ks,l,m,r,h,hv=>by
  unfold O3 at h;simp only[Option.bind_eq_some_iff]at h;obtain⟨ds,h1,h2⟩:=h;have hl:=vi hv;have Nk:∀{k:Nat},ks=[k]→isAgg ds=false→(∀v w:Value,aR v=k→aR w=k→sO E (d+1) t v w=some (EW v w))→∃ds,E.desc t=some ds∧(∀s,dA E t=some s→s.1=isAgg ds)∧sO E (d+1) t (Nj (isAgg ds) l) (Nj (isAgg ds) m)=some r:=by
   rintro k rfl ha hq;refine⟨ds,h1,fun s hs=>?_,?_⟩
   ·unfold dA at hs;rw[h1]at hs;simp only[Option.bind_some,ha,cond_false,Option.some.injEq]at hs;subst hs;exact ha.symm
   ·rw[ha]
    match l,m,hl with
    |[v],[w],_=>
     simp only[kE]at hv;split at hv
     ·rename_i hc;simp only[Bool.and_eq_true,beq_iff]at hc;simp only[Bool.and_true]at hv;rw[←hv];exact hq v w hc.1.2 hc.2
     ·cases hv
  split at h2
  ·cases h2;refine Nk rfl rfl fun v w hk l6=>?_;cases v<;>simp[aR]at hk<;>try(rename_i i _;cases i<;>simp[fE]at hk;done)
   cases w<;>simp[aR]at l6<;>try(rename_i i _;cases i<;>simp[fE]at l6;done)
   simp[sO,h1,EW]
  ·rename_i k;cases h2;refine Nk rfl rfl fun v w hk l6=>?_;have hp:=HZ k;cases v<;>simp[aR]at hk<;>try omega
   cases w<;>simp[aR]at l6<;>try omega
   rw[Bb hk,Bb l6];simp[sO,h1,EW]
  ·cases h2;refine Nk rfl rfl fun v w hk l6=>?_;cases v<;>simp[aR]at hk<;>try(rename_i i _;cases i<;>simp[fE]at hk;done)
   cases w<;>simp[aR]at l6<;>try(rename_i i _;cases i<;>simp[fE]at l6;done)
   simp[sO,h1,EW]
  ·rename_i fields;rw[ae]at h2;obtain⟨he,hF⟩:=h2;refine⟨_,h1,fun s hs=>?_,?_⟩
   ·unfold dA at hs;rw[h1]at hs;simp only[Option.bind_some,isAgg,cond_true,Option.bind_eq_some_iff]at hs;obtain⟨n,_,h4⟩:=hs;cases h4;rfl
   ·have key:∀(fs:List Field) (off:Nat) (ks:List Nat) (l0 m0 l m:List Value) (r:Bool),HX (O3 E d) E fs off=some ks→l0.length=off→m0.length=off→kE ks l m=some r→B4 (mw E) (sO E d) (l0++l) (m0++m) fs=some r:=by
     intro fs
     induction fs with
     |nil=>
      intro off ks l0 m0 l m r hc _ _ hv;simp[HX]at hc;subst hc;cases l<;>cases m<;>simp[kE]at hv;simp[B4,hv]
     |cons f fs ih=>
      intro off ks l0 m0 l m r hc qB B7 hv;simp only[HX,ae,Bool.and_eq_true,beq_iff,Option.bind_eq_some_iff,Option.some.injEq]at hc;obtain⟨⟨hn,Nl⟩,k1,WI,s,hs,cI,k2,WJ,rfl⟩:=hc;obtain⟨wu,BV⟩:=vi hv;rw[List.length_append]at wu BV;have el:l=l.take k1.length++l.drop k1.length:=(List.take_append_drop _ _).symm;have em:m=m.take k1.length++m.drop k1.length:=(List.take_append_drop _ _).symm;have tl:(l.take k1.length).length=k1.length:=by simp;omega
      have tm:(m.take k1.length).length=k1.length:=by simp;omega
      rw[el,em,sr tl tm]at hv;simp only[Option.bind_eq_some_iff,Option.some.injEq]at hv;obtain⟨r1,gG,r2,qC,rfl⟩:=hv;obtain⟨WK,_,QA,MZ⟩:=H4 d WI gG;generalize isAgg WK=agg at QA MZ;have zJ:=QA s hs;have part:∀(x0 x:List Value),x0.length=off→k1.length≤x.length→mw E f.type (x0++x) f.offset=some (Nj agg (x.take k1.length)):=by
       intro x0 x pI hx;unfold mw;rw[hs];simp only[Option.bind_some];rw[Nl,←pI,List.drop_left,cI];have ht:takeN k1.length x=some (x.take k1.length):=by rw[aO];exact⟨hx,rfl⟩
       rw[ht,zJ];cases agg with
       |true=>rfl
       |false=>
        have:s.2=1:=by
         obtain⟨a,n⟩:=s;simp only at zJ;subst zJ;unfold dA at hs;simp only[Option.bind_eq_some_iff]at hs;obtain⟨dd,_,h5⟩:=hs;cases Gp:isAgg dd with
         |true=>
          rw[Gp]at h5;simp only[cond_true,Option.bind_eq_some_iff]at h5;obtain⟨_,_,h6⟩:=h5;cases h6
         |false=>rw[Gp]at h5;cases h5;rfl
        have hk:k1.length=1:=by omega
        rw[hk]at hx ⊢
        match x,hx with
        |v::x',_=>simp[b5,Nj]
      simp only[B4,ae];refine⟨hn,?_⟩;rw[part l0 l qB om,part m0 m B7 om];simp only[Option.bind_some,MZ];have:=ih (off+k1.length) k2 (l0++l.take k1.length) (m0++m.take k1.length) (l.drop k1.length) (m.drop k1.length) r2 WJ (by rw[List.length_append,qB,tl]) (by rw[List.length_append,B7,tm]) qC;rw[List.append_assoc,List.append_assoc,←el,←em]at this;cases r1 with
      |true=>simp only[Bool.true_and];exact this
      |false=>rfl
    have:=key fields.toList 0 ks [] [] l m r hF rfl rfl hv;simp only[List.nil_append]at this;show sO E (d+1) t (.agg l.toArray) (.agg m.toArray)=some r;unfold sO;rw[h1];simp only[Option.bind_some,ae];exact⟨he,this⟩
  ·cases h2
def rA:List Nat→List Nat→Bool
 |[],[]=>true
 |a::l,b::m=>Nat.beq a b&&rA l m
 |_,_=>false
theorem xB:∀{a b:List Nat},rA a b=true→a=b
 |[],[],_=>rfl
 |[],_::_,h=>by simp[rA]at h
 |_::_,[],h=>by simp[rA]at h
 |x::a,y::b,h=>by
  simp only[rA,Bool.and_eq_true,beq_iff]at h;rw[h.1,xB h.2]
def H5 (E:Env) (t:TypeId):Bool:=E.pq t&&(match E.desc t,O3 E 100 t,E.zero t with
 |some d,some ks,some (.agg a)=>isAgg d&&rA (a.toList.map aR) ks
 |_,_,_=>false)
theorem qi {n:Nat}:∀{l:List Nat},jU n l=true→n∈l
 |[],h=>by simp[jU]at h
 |m::l,h=>by
  unfold jU at h;split at h
  ·rename_i e;rw[beq_iff]at e;simp[e]
  ·exact List.mem_cons_of_mem _ (qi h)
def Vf (E:Env) (l st:List Nat):Env:={E with pq:=fun t=>jU t l,still:=fun g=>jU g st}
def tE (E:Env) (l:List Nat):Env:=Vf E l []
theorem Nn {l st:List Nat} (hz:∀t z,E.zero t=some z→dz z=true) (hl:l.all (H5 E)=true) (bA:∀g,jU g st=true→CM E g):bV (Vf E l st) E:=by
 refine⟨fun _ _ h=>h,fun _ _ h=>h,fun _ _ h=>h,fun t z h=>⟨h,hz t z h⟩,fun t a b z xs ys r he WL hr ha hb=>?_,fun _ _ h=>h,bA⟩;have iq:=List.all_eq_true.1 hl t (qi he);unfold H5 at iq;simp only[Bool.and_eq_true]at iq;obtain⟨h1,h2⟩:=iq;refine⟨h1,?_⟩;have TH:E.zero t=some z:=WL;split at h2
 ·rename_i dd ks a0 hd hk zP;simp only[Bool.and_eq_true]at h2;rw[TH,Option.some.injEq]at zP;subst zP;have pJ:=xB h2.2;have hv:=HY hr;simp only[Value.cells]at hv;rw[pJ,←ha,←hb]at hv;obtain⟨ds,cu,_,MZ⟩:=H4 100 hk hv;rw[hd]at cu;cases cu;rw[h2.1]at MZ;simpa[Nj]using MZ
 ·cases h2
theorem LR {l:List Nat} (hz:∀t z,E.zero t=some z→dz z=true) (hl:l.all (H5 E)=true):bV (tE E l) E:=Nn hz hl fun g h=>by simp[jU]at h
end
def ints (l:List Int):List (List TV):=l.map fun n=>[.s (.int .i64 n)]
inductive Sh where
 |bool
 |int (k:IntKind)
 |str
 |sl (e:List Sh)
mutual
def Fit:Sh→TV→Prop
 | .bool,t=>∃b,t= .s (.bool b)
 | .int k,t=>∃n,k.min≤n∧n≤k.max∧t= .s (.int k n)
 | .str,t=>∃s:ByteArray,s.size≤maxLen∧t= .s (.string s)
 | .sl e,t=>∃es:List (List TV),es.length≤reachBytes∧(∀r∈es,Fits e r)∧t= .sl e.length es false
def Fits:List Sh→List TV→Prop
 |[],l=>l=[]
 |s::ss,l=>∃t r,l=t::r∧Fit s t∧Fits ss r
end
theorem Fit.fz {s:Sh} {t:TV} (h:Fit s t):M.fz t=true:=by
 cases s with
 |bool=>simp only[Fit]at h;obtain⟨b,rfl⟩:=h;rfl
 |int k=>simp only[Fit]at h;obtain⟨n,_,_,rfl⟩:=h;rfl
 |str=>simp only[Fit]at h;obtain⟨n,_,rfl⟩:=h;rfl
 |sl e=>simp only[Fit]at h;obtain⟨es,_,_,rfl⟩:=h;rfl
theorem Fits.fz:∀{ss:List Sh} {l:List TV},Fits ss l→∀t∈l,M.fz t=true
 |[],l,h,t,ht=>by simp only[Fits]at h;subst h;cases ht
 |s::ss,l,h,t,ht=>by
  simp only[Fits]at h;obtain⟨t0,r,rfl,h1,h2⟩:=h;rcases List.mem_cons.1 ht with rfl |ht
  ·exact h1.fz
  ·exact Fits.fz h2 t ht
theorem Fits.length:∀{ss:List Sh} {l:List TV},Fits ss l→l.length=ss.length
 |[],l,h=>by simp only[Fits]at h;subst h;rfl
 |s::ss,l,h=>by
  simp only[Fits]at h;obtain⟨t0,r,rfl,h1,h2⟩:=h;simp[Fits.length h2]
theorem Fits.append:∀{ss H6:List Sh} {l l':List TV},Fits ss l→Fits H6 l'→Fits (ss++H6) (l++l')
 |[],H6,l,l',h,h'=>by simp only[Fits]at h;subst h;exact h'
 |s::ss,H6,l,l',h,h'=>by
  simp only[Fits]at h;obtain⟨t0,r,rfl,h1,h2⟩:=h;simp only[List.cons_append,Fits];exact⟨_,_,rfl,h1,Fits.append h2 h'⟩
def qj (P:Program) (f:TypeId→List Sh→Bool):List Field→Nat→List Sh→Bool
 |[],_,ss=>ss.isEmpty
 |x::xs,o,ss=>Nat.beq x.offset o&&Nat.ble (P.cellsOf x.type) ss.length&&f x.type (ss.take (P.cellsOf x.type))&&qj P f xs (o+P.cellsOf x.type) (ss.drop (P.cellsOf x.type))
def H7 (f:List Sh→Bool) (z:Nat):Nat→List Sh→Bool
 |0,ss=>ss.isEmpty
 |n+1,ss=>Nat.ble z ss.length&&f (ss.take z)&&H7 f z n (ss.drop z)
def JM (P:Program):Nat→TypeId→List Sh→Bool
 |0,_,_=>false
 |n+1,t,ss=>match P.underlying t with
  |some .bool=>(match ss with|[.bool]=>true|_=>false)
  |some (.int k)=>(match ss with|[.int k']=>decide (k'=k)|_=>false)
  |some .string=>(match ss with|[.str]=>true|_=>false)
  |some (.slice e)=>(match ss with|[.sl es]=>Nat.beq (P.cellsOf e) es.length&&(Nat.blt 0 es.length&&Nat.blt 0 (P.bytesOf e))&&JM P n e es|_=>false)
  |some (.struct fs)=>Nat.beq (P.cellsOf t) ss.length&&qj P (JM P n) fs.toList 0 ss
  |some (.array m e)=>Nat.beq (P.cellsOf t) ss.length&&H7 (JM P n e) (P.cellsOf e) m ss
  |_=>false
structure AR (W:World) (μ:aS) (h:ab):Prop where
 high:∀b,h.size≤b→h.get b=none
 all:∀b,b<h.size→∃cs,h.get b=some (.cells cs b (b+1) 0)
 dZ:∀b m,μ b=some m→b<h.size
 obj:∀b m,μ b=some m→∃cs c e fr,h.get b=some (.cells cs b (b+1) 0)∧W.heap[m.r]? =some (.cells c e fr)∧c.size=m.n∧m.s+cs.length≤m.n∧
  ∀(i:Nat) v,cs[i]? =some v→∃v',c[m.s+i]? =some v'∧ak μ v v'
def Grown (h h':ab):Prop:=h.size≤h'.size∧∀b,b<h.size→h'.get b=h.get b
theorem Grown.refl (h:ab):Grown h h:=⟨Nat.le_refl _,fun _ _=>rfl⟩
theorem Grown.trans {a b c:ab} (h:Grown a b) (k:Grown b c):Grown a c:=⟨Nat.le_trans h.1 k.1,fun x hx=>by rw[k.2 x (Nat.lt_of_lt_of_le hx h.1),h.2 x hx]⟩
theorem AR.rd {W:World} {μ:aS} {h:ab} (_:AR W μ h) {b:Nat} {cs:List Value} (hg:h.get b=some (.cells cs b (b+1) 0)):h.rd b=some cs:=
 cJ (bp hg hg) (Nat.zero_le _) (by unfold ab.cellsOf;rw[hg])
theorem AR.H8 {W:World} {μ az:aS} {h h':ab} (H:AR W μ h) (H':AR W az h') (g:Grown h h') {b:Nat} {cs:List Value} (hb:b<h.size) (hr:h.rd b=some cs):h'.rd b=some cs:=by
 obtain⟨Fv,hg⟩:=H.all b hb;have e:=H.rd hg;rw[hr]at e;cases e;exact H'.rd (by rw[g.2 b hb,hg])
theorem AR.tH {W:World} {μ az:aS} {h h':ab} (H:AR W μ h) (H':AR W az h') (g:Grown h h') {t:TV} {v:Value} (hv:VR 0 qR (· <h.size) h t v):VR 0 qR (· <h'.size) h' t v:=
 hv.mono (Nat.le_refl _) (fun _ _ _ hx=>hx) (fun _ _ hx=>hx) (fun _ hb=>Nat.lt_of_lt_of_le hb g.1) fun _ _ hb hr=>H.H8 H' g hb hr
def Laid (W:World) (ss:List Sh) (cs:List Value):Prop:=∀μ h,AR W μ h→∃az h' xC vs,AR W az h'∧μ.le az∧Grown h h'∧Fits ss xC∧cX 0 qR (· <h'.size) h' xC vs∧ao az vs cs
theorem Laid.nil (W:World):Laid W [] []:=fun μ h H=>⟨μ,h,[],[],H,μ.le_refl,.refl h,by simp[Fits],.nil,.nil⟩
theorem Laid.append {W:World} {ss H6:List Sh} {cs cs':List Value} (h1:Laid W ss cs) (h2:Laid W H6 cs'):Laid W (ss++H6) (cs++cs'):=by
 intro μ h H;obtain⟨b6,k1,t1,v1,H1,l1,g1,f1,r1,x1⟩:=h1 μ h H;obtain⟨od,k2,t2,v2,H2,l2,g2,f2,r2,x2⟩:=h2 b6 k1 H1;exact⟨od,k2,t1++t2,v1++v2,H2,aS.le_trans l1 l2,g1.trans g2,f1.append f2,(r1.sj fun _ _ hv=>H1.tH H2 g2 hv).append r2,(x1.mono l2).append x2⟩
theorem Laid.scalar {W:World} {s:Sh} {v:Value} (hp:ar v=true) (hf:Fit s (.s v)):Laid W [s] [v]:=fun μ h H=>
 ⟨μ,h,[.s v],[v],H,μ.le_refl,.refl h,by simp only[Fits];exact⟨_,_,rfl,hf,rfl⟩,.cons (.s hp) .nil,.cons (.lit hp) .nil⟩
theorem Laid.rows {W:World} {e:List Sh}:∀{rows:List (List Value)},(∀r∈rows,Laid W e r)→∀μ h,AR W μ h→∃(az:aS) (h':ab) (es:List (List TV)) (vs:List Value),AR W az h'∧μ.le az∧Grown h h'∧es.length=rows.length∧(∀r∈es,Fits e r)∧
 cX 0 qR (· <h'.size) h' es.flatten vs∧ao az vs rows.flatten
 |[],_,μ,h,H=>⟨μ,h,[],[],H,μ.le_refl,.refl h,rfl,by simp,.nil,.nil⟩
 |r::rows,hr,μ,h,H=>by
  obtain⟨b6,k1,t1,v1,H1,l1,g1,f1,r1,x1⟩:=hr r List.mem_cons_self μ h H;obtain⟨od,k2,es,v2,H2,l2,g2,n2,f2,r2,x2⟩:=Laid.rows (rows:=rows) (fun r' h'=>hr r' (List.mem_cons_of_mem _ h')) b6 k1 H1;refine⟨od,k2,t1::es,v1++v2,H2,aS.le_trans l1 l2,g1.trans g2,by simp[n2],?_,?_,?_⟩
  ·intro r' jA;rcases List.mem_cons.1 jA with rfl |jA
   ·exact f1
   ·exact f2 r' jA
  ·rw[List.flatten_cons];exact(r1.sj fun _ _ hv=>H1.tH H2 g2 hv).append r2
  ·rw[List.flatten_cons];exact(x1.mono l2).append x2
theorem vj {α:Type} {z:Nat}:∀{es:List (List α)},(∀e∈es,e.length=z)→∀(i j:Nat) e t,es[i]? =some e→e[j]? =some t→es.flatten[i*z+j]? =some t
 |[],_,i,j,e,t,h,_=>by simp at h
 |e0::es,hz,i,j,e,t,h,k=>by
  rw[List.flatten_cons];have h0:=hz e0 List.mem_cons_self;cases i with
  |zero=>
   simp at h;subst h;have:j<e0.length:=(List.getElem?_eq_some_iff.1 k).1;rw[Nat.zero_mul,Nat.zero_add,List.getElem?_append_left this,k]
  |succ i=>
   rw[List.getElem?_append_right (by rw[h0,Nat.succ_mul];omega),h0,show(i+1)*z+j - z=i*z+j by rw[Nat.succ_mul];omega];exact vj (fun e' h'=>hz e' (List.mem_cons_of_mem _ h')) i j e t (by simpa using h) k
theorem Bc {α:Type} {z:Nat}:∀{es:List (List α)},(∀e∈es,e.length=z)→es.flatten.length=es.length*z
 |[],_=>by simp
 |e0::es,hz=>by
  rw[List.flatten_cons,List.length_append,Bc (fun e' h'=>hz e' (List.mem_cons_of_mem _ h')),hz e0 List.mem_cons_self,List.length_cons,Nat.succ_mul];omega
theorem AR.push {W:World} {μ:aS} {h:ab} (H:AR W μ h) {vs cs:List Value} (hv:ao μ vs cs) {r s:Nat} {c:Array Value} {e:TypeId} {fr:Nat×Nat} (hr:W.heap[r]? =some (.cells c e fr))
 (hle:s+cs.length≤c.size) (hc:∀(i:Nat) v,cs[i]? =some v→c[s+i]? =some v):
 AR W (fun b=>if b=h.size then some ⟨r,s,c.size⟩else μ b) (h.push (.cells vs h.size (h.size+1) 0))∧μ.le (fun b=>if b=h.size then some ⟨r,s,c.size⟩else μ b):=by
 have No:μ.le (fun b=>if b=h.size then some ⟨r,s,c.size⟩else μ b):=fun b m hb=>by
  have:=H.dZ b m hb;show(if b=h.size then _ else _)=_;rw[if_neg om,hb]
 refine⟨⟨fun b hb=>?_,fun b hb=>?_,fun b m hb=>?_,fun b m hb=>?_⟩,No⟩
 ·rw[ab.size_push]at hb;rw[ab.ai,if_neg om];exact H.high b om
 ·rw[ab.size_push]at hb;rw[ab.ai];by_cases e:b=h.size
  ·rw[if_pos e,e];exact⟨_,rfl⟩
  ·rw[if_neg e];exact H.all b om
 ·rw[ab.size_push];by_cases e:b=h.size
  ·omega
  ·rw[if_neg e]at hb;have:=H.dZ b m hb;omega
 ·by_cases e:b=h.size
  ·rw[if_pos e]at hb;cases hb;refine⟨vs,c,_,_,by rw[ab.ai,if_pos e,e],hr,rfl,by rw[hv.length];exact hle,fun i v hi=>?_⟩;obtain⟨v',h1,h2⟩:=hv.get hi;exact⟨v',hc i v' h1,h2.mono No⟩
  ·rw[if_neg e]at hb;obtain⟨Fv,c0,e0,QB,q1,q2,q3,q4,q5⟩:=H.obj b m hb;exact⟨Fv,c0,e0,QB,by rw[ab.ai,if_neg e];exact q1,q2,q3,q4,fun i v hi=>let⟨v',h1,h2⟩:=q5 i v hi;⟨v',h1,h2.mono No⟩⟩
theorem AR.dummy {W:World} {μ:aS} {h:ab} (H:AR W μ h):AR W μ (h.push (.cells [] h.size (h.size+1) 0)):=by
 refine⟨fun b hb=>?_,fun b hb=>?_,fun b m hb=>?_,fun b m hb=>?_⟩
 ·rw[ab.size_push]at hb;rw[ab.ai,if_neg om];exact H.high b om
 ·rw[ab.size_push]at hb;rw[ab.ai];by_cases e:b=h.size
  ·rw[if_pos e,e];exact⟨_,rfl⟩
  ·rw[if_neg e];exact H.all b om
 ·rw[ab.size_push];have:=H.dZ b m hb;omega
 ·have:=H.dZ b m hb;obtain⟨Fv,c0,e0,QB,q1,q2,q3,q4,q5⟩:=H.obj b m hb;exact⟨Fv,c0,e0,QB,by rw[ab.ai,if_neg om];exact q1,q2,q3,q4,q5⟩
theorem pa {h:ab} (o:dV):Grown h (h.push o):=⟨by rw[ab.size_push];omega,fun b hb=>by rw[ab.ai,if_neg om]⟩
theorem Laid.slice {W:World} {e:List Sh} (he:0<e.length) {a:Addr} {len cap:Nat} (Ev:len≤cap) (hlen:len≤reachBytes) {base:Nat}
 (iq:∀i,i<cap→∃r,W.cells? base (a.add (i*e.length)) e.length=some r∧(i<len→Laid W e r)):Laid W [.sl e] [.slice (some a) len cap]:=by
 intro μ h H;by_cases h0:cap=0
 ·subst h0;have:len=0:=by omega
  subst this;have H':=H.dummy;refine⟨μ,_,[.sl e.length [] false],[.slice (some ⟨h.size,0,some e.length⟩) 0 0],H',μ.le_refl,pa _,?_,.cons ?_ .nil,.cons (.bU fun h=>absurd rfl h) .nil⟩
  ·simp only[Fits,Fit];exact⟨_,_,rfl,⟨[],by simp,by simp,rfl⟩,rfl⟩
  ·refine .sl (b:=h.size) (o:=0) (cs:=[]) (by rw[ab.size_push];omega) ?_ he rfl (Nat.le_refl _) (fun _=>rfl) (by simp) (by simp) (by simp) (by simp);exact H'.rd (by rw[ab.ai,if_pos rfl])
 ·-- the row
  have zZ:∀i,i<cap→∀j,j<e.length→∃r,W.cells? base (a.add (i*e.length)) e.length=some r∧r.length=e.length∧W.cell? ((a.add (i*e.length)).add j)=r[j]? :=by
   intro i hi j hj;obtain⟨r,hr,_⟩:=iq i hi;obtain⟨_,h2,h3⟩:=World.cells?_some hr;exact⟨r,hr,h2,h3 j hj⟩
  have TI:∀k j,((a.add k).add j).block=a.block:=by intro k j;unfold Addr.add;split<;>split<;>rfl
  have Nl:∀k j,((a.add k).add j).off=a.off+k+j:=by
   intro k j;unfold Addr.add;split<;>split<;>(try simp only[])<;>omega
  have OP:((a.add (0*e.length)).add 0)=a:=by rw[Nat.zero_mul];rfl
  obtain⟨c,ty,fr,hW,H9⟩:∃c ty fr,W.heap[a.block]? =some (.cells c ty fr)∧a.spot=none:=by
   obtain⟨r,hr,h2,h3⟩:=zZ 0 om 0 he;rw[OP]at h3;have:r[0]? =some r[0]:=List.getElem?_eq_getElem om;rw[this]at h3;unfold World.cell? at h3;split at h3
   ·rename_i c ty fr hc;split at h3
    ·cases h3
    ·rename_i hs;exact⟨c,ty,fr,hc,by simpa using hs⟩
   ·cases h3
  have Np:∀k j,((a.add k).add j).spot=none:=by
   intro k j;unfold Addr.add;split<;>split<;>simp[H9]
  have b7:∀i,i<cap→∀r,W.cells? base (a.add (i*e.length)) e.length=some r→r.length=e.length∧∀(j:Nat) v,r[j]? =some v→c[a.off+i*e.length+j]? =some v:=by
   intro i hi r hr;obtain⟨_,h2,h3⟩:=World.cells?_some hr;refine⟨h2,fun j v hv=>?_⟩;have hj:j<e.length:=by rw[←h2];exact(List.getElem?_eq_some_iff.1 hv).1
   have:=h3 j hj;unfold World.cell? at this;rw[TI,hW,Np,Nl,hv]at this;simpa using this
  have Du:a.off+cap*e.length≤c.size:=by
   obtain⟨r,hr,_⟩:=iq (cap - 1) om;obtain⟨h2,h3⟩:=b7 _ om r hr;have h4:=h3 (e.length - 1) r[e.length - 1] (List.getElem?_eq_getElem om);have h5:=(Array.getElem?_eq_some_iff.1 h4).1;have:cap*e.length=(cap - 1)*e.length+e.length:=by rw[←Nat.succ_mul];congr 1;omega
   omega
  -- the elements
  let rows:=(List.range len).map fun i=>(W.cells? base (a.add (i*e.length)) e.length).getD []
  have Ia:∀i,i<len→rows[i]? =W.cells? base (a.add (i*e.length)) e.length:=by
   intro i hi;obtain⟨r,hr,_⟩:=iq i om;simp only[rows,List.getElem?_map,List.getElem?_range hi,Option.map_some,hr,Option.getD_some]
  have Qp:rows.length=len:=by simp[rows]
  have hz:∀r∈rows,r.length=e.length:=by
   intro r hr;obtain⟨i,hi,rfl⟩:=List.mem_iff_getElem.1 hr;have yp:i<len:=by omega
   obtain⟨r',jA,_⟩:=iq i om;have:=Ia i yp;rw[jA,List.getElem?_eq_getElem hi]at this;cases this;exact(b7 i om _ jA).1
  have hL:∀r∈rows,Laid W e r:=by
   intro r hr;obtain⟨i,hi,rfl⟩:=List.mem_iff_getElem.1 hr;have yp:i<len:=by omega
   obtain⟨r',jA,hl⟩:=iq i om;have:=Ia i yp;rw[jA,List.getElem?_eq_getElem hi]at this;cases this;exact hl yp
  obtain⟨b6,k1,es,vs,H1,l1,g1,n1,f1,r1,x1⟩:=Laid.rows hL μ h H;have zD:=Bc hz;have oi:∀(i:Nat) v,rows.flatten[i]? =some v→c[a.off+i]? =some v:=by
   intro i v hv;have hi:=(List.getElem?_eq_some_iff.1 hv).1;rw[zD,Qp]at hi;have hq:i / e.length<len:=(Nat.div_lt_iff_lt_mul he).2 hi;have hm:i % e.length<e.length:=Nat.mod_lt _ he;have WM:i / e.length*e.length+i % e.length=i:=by rw[Nat.mul_comm];exact Nat.div_add_mod _ _
   obtain⟨r',jA,_⟩:=iq (i / e.length) om;have h1:=Ia _ hq;rw[jA]at h1;obtain⟨q1,q2⟩:=b7 _ om r' jA;have h2:r'[i % e.length]? =some r'[i % e.length]:=List.getElem?_eq_getElem om;have h3:=vj hz _ _ _ _ h1 h2;rw[WM,hv]at h3;cases h3;have:=q2 _ _ h2;rw[show a.off+i / e.length*e.length+i % e.length=a.off+i by omega]at this;exact this
  have hle:a.off+rows.flatten.length≤c.size:=by
   rw[zD,Qp];have:=Nat.mul_le_mul_right e.length Ev;omega
  obtain⟨H2,l2⟩:=H1.push x1 hW hle oi;have wo:∀r∈es,r.length=e.length:=fun r hr=>(f1 r hr).length;refine⟨_,_,[.sl e.length es false],[.slice (some ⟨k1.size,0,some e.length⟩) len cap],H2,aS.le_trans l1 l2,g1.trans (pa _),?_,.cons ?_ .nil,.cons ?_ .nil⟩
  ·simp only[Fits,Fit];exact⟨_,_,rfl,⟨es,om,f1,rfl⟩,rfl⟩
  ·have Ll:vs.length=len*e.length:=by rw[x1.length,zD,Qp]
   refine .sl (b:=k1.size) (o:=0) (cs:=vs) (by rw[ab.size_push];omega) ?_ he om Ev (fun h=>by cases h) om wo (fun r hr t ht=>(f1 r hr).fz t ht) ?_
   ·exact H2.rd (by rw[ab.ai,if_pos rfl])
   ·intro i j e' t v q1 q2 q3;have q4:=vj wo i j e' t q1 q2;rw[Nat.zero_add]at q3;exact H1.tH H2 (pa _) (r1.2 _ _ _ q4 q3)
  ·have:ak (fun b=>if b=k1.size then some (⟨a.block,a.off,c.size⟩:MT)else b6 b) (.slice (some ⟨k1.size,0,some e.length⟩) len cap) (.slice (some ⟨a.block,a.off+0,none⟩) len cap):=
    .slice (m:=⟨a.block,a.off,c.size⟩) (by simp) Ev Ev (fun h=>h) (by simpa using Du)
   have ha:(⟨a.block,a.off+0,none⟩:Addr)=a:=by
    cases a;simp only[]at H9;subst H9;rfl
   rw[ha]at this;exact this
end Go.M
end
