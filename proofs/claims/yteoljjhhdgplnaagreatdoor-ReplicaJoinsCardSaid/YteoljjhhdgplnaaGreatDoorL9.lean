/-
  Part 9 of the library that the proof leans on.
-/
import Derived.Test.YteoljjhhdgplnaaGreatDoorL8
import Derived.IntWalk
import Derived.DataReads
namespace Go.M
open Go
section
variable {T E:Env} {X:Cx} {ρ:Gh} {F:Nat→Prop} {o:Ob} {c:Nat} {af:AF} {f:Fr} {h:ah} {p:Oper} {K:OK}
theorem jN.JF {canon:Option Value} (H:Mem X ρ F o c h) (R:jN c ρ F h o canon K) (hp:aO E af p=canon):fv E X ρ F o c af h p K:=by
 obtain⟨v,x,h1,h2,h3⟩:=R;exact fv.pure H (hp.trans h1) h2 h3
theorem We (L:cm T E) (H:Mem X ρ F o c h) {t:TypeId} {x:TV} {xv:Value} (hw:ZZ T t x o c K) (hx:VR c ρ F h x xv)
 (hp:∀d,E.desc t=some d→aO E af p=(match(generalizing:=false) d,xv with
  | .string,.string s=>some (goInt s.size)
  | .array n _,_=>some (goInt n)
  | .slice _,.slice _ n _=>some (goInt n)
  | .map _ _,.map none=>some (goInt 0)
  |_,_=>none))
 (hq:∀k e r,E.desc t=some (.map k e)→xv= .map (some r)→bP E af p=some (.len r)):fv E X ρ F o c af h p K:=by
 unfold ZZ at hw;split at hw
 ·rename_i hd;split at hw
  ·have:=hx.dV.1;subst this;exact fv.pure H (hp _ (L.desc _ _ hd)) (.s rfl) hw
  ·exact hw.elim
 ·rename_i n e hd;exact fv.pure H ((hp _ (L.desc _ _ hd)).trans (by cases xv<;>rfl)) (.s rfl) hw
 ·rename_i e hd;have arr:∀{m:Nat} {y:TO},look o m=some y→B9 y=true→VR c ρ F h (.tk m) xv→K (.s (goInt (HQ y))) o c .pure→fv E X ρ F o c af h p K:=by
   intro m y hl hy hx hw;obtain⟨Sm,hO⟩:=H.cC hl;have:∃a k,xv= .slice a (HQ y) k:=by
    rcases hO.tk hy hx with⟨h0,_,rfl |⟨b,o',cs,_,_,_,_,rfl⟩⟩|⟨b,cap,_,_,rfl⟩
    ·rw[h0];exact⟨none,0,rfl⟩
    ·rw[h0];exact⟨_,0,rfl⟩
    ·exact⟨_,_,rfl⟩
   obtain⟨a,k,rfl⟩:=this;exact fv.pure H (hp _ (L.desc _ _ hd)) (.s rfl) hw
  split at hw
  ·cases hx with
   |bg hb=>exact fv.pure H (hp _ (L.desc _ _ hd)) (.s rfl) hw
  ·rename_i m;split at hw
   ·rename_i hl;exact arr hl rfl hx hw
   ·rename_i hl;exact arr hl rfl hx hw
   ·exact hw.elim
  ·cases hx with
   |nil h1=>subst h1;exact fv.pure H (hp _ (L.desc _ _ hd)) (.s rfl) hw
   |sl q1 q2 q3 q4=>subst q4;exact fv.pure H (hp _ (L.desc _ _ hd)) (.s rfl) hw
  ·rename_i m k;split at hw
   ·rename_i hl;obtain⟨Qt,hK⟩:=hw;obtain⟨Sm,hO⟩:=H.cC hl;cases hx with
    |pv JB sb ha h0=>
    have:∃a q,xv= .slice a k q:=by
     cases hO with
     |nil hb hz=>
      have Mf:k=0:=by simpa using Qt
      subst Mf;rcases h0 _ hb with rfl |⟨b,o',cs,_,_,_,_,rfl⟩
      ·exact⟨none,0,rfl⟩
      ·exact⟨_,0,rfl⟩
     |arr hb hg hf ht eF ku c6 nv iG hc hF=>
      obtain⟨cap,_,rfl⟩:=ha _ _ _ hb;exact⟨_,_,rfl⟩
    obtain⟨a,q,rfl⟩:=this;exact fv.pure H (hp _ (L.desc _ _ hd)) (.s rfl) hK
   ·exact hw.elim
  ·exact hw.elim
 ·rename_i k e hd;split at hw
  ·have:=hx.dV.1;subst this;exact fv.pure H (hp _ (L.desc _ _ hd)) (.s rfl) hw
  ·rename_i n;split at hw
   ·rename_i kn es hl;obtain⟨Sm,hO⟩:=H.cC hl;cases hO with
    |map hb hg hlen hc bz=>
     rename_i b clock ev;cases hx with
     |mp cA=>
      rw[hb]at cA;cases cA;have Fg:fj h b=some (ev,clock):=by unfold fj;rw[hg]
      have hE:wP c ρ F h kn es ev:=⟨hlen,hc⟩;refine jP.JF (q:=.len b) (jP.same H (by simp[RQ.run,Fg];rfl) (.s rfl) ?_ (.mi (.refl _) rfl hl (.inl hb) ⟨_,Fg,hE.refl⟩)) (hp _ (L.desc _ _ hd)) (hq _ _ _ (L.desc _ _ hd) rfl);rw[←hlen];exact hw
   ·rename_i kn es hl;obtain⟨Sm,hO⟩:=H.cC hl;cases hO with
    |fp hb hg cH hc bz=>
     rename_i Sq b clock ev;cases hx with
     |mp cA=>
      rw[hb]at cA;cases cA;have Fg:fj h b=some (ev,clock):=by unfold fj;rw[hg]
      have hE:jk c ρ F h X.base kn Sq es ev:=hc;have hlen:es.length=ev.length:=by
       have key:∀{es:List (Value×TV)} {ev:List MapEntry} {S:Ft},jk c ρ F h X.base kn S es ev→es.length=ev.length:=by
        intro es ev S hE
        induction hE with
        |nil=>rfl
        |cons _ _ _ _ _ ih=>simp[ih]
       exact key hE
      refine jP.JF (q:=.len b) (jP.same H (by simp[RQ.run,Fg];rfl) (.s rfl) ?_ (.mi (.refl _) rfl hl (.inl hb) ⟨_,Fg,hE.refl fun e he t ht=>.inr (cH e he t ht)⟩)) (hp _ (L.desc _ _ hd)) (hq _ _ _ (L.desc _ _ hd) rfl);rw[←hlen];exact hw
   ·exact hw.elim
  ·exact hw.elim
 ·exact hw.elim
theorem jD (L:cm T E) (N:lR T F h) (S:bH c ρ F h f af) {x:Operand} {l:List Operand} (mR:l.all (ui T)=true) (hm:x∈l):∃v,ev E af x=some v∧VR c ρ F h (nq T f x) v:=se L N S (List.all_eq_true.1 mR x hm)
theorem evO (L:cm T E) (N:lR T F h) (S:bH c ρ F h f af) {x:Option Operand} {l:List Operand} (mR:l.all (ui T)=true) (hm:∀y,x=some y→y∈l):∃v,qd E af x=some v∧VZ c ρ F h (VK T f x) v:=by
 cases x with
 |none=>exact⟨none,rfl,.inl ⟨rfl,rfl⟩⟩
 |some y=>
  obtain⟨v,h1,h2⟩:=se (E:=E) L N S (List.all_eq_true.1 mR y (hm y rfl));exact⟨some v,by simp[qd,h1],.inr ⟨_,_,rfl,rfl,h2⟩⟩
theorem H9 (L:cm T E) (H:Mem X ρ F o c h) {b:Builtin} {vD:Array Operand} {argTypes:Array TypeId} {args:List TV} {vs:List Value} {dst:Option Tmp} {ty:TypeId} {pos:String} {after:Array Edge} {guard:Option (Nat×Bool)}
 (hw:Ah T b argTypes.toList args o c K) (hr:ee c ρ F h args vs) (he:JK E af vD.toList=some vs):fv E X ρ F o c af h ⟨dst,.call ⟨.builtin b,vD,argTypes⟩,ty,pos,after,guard⟩ K:=by
 have hp:aO E af ⟨dst,.call ⟨.builtin b,vD,argTypes⟩,ty,pos,after,guard⟩=rU E b argTypes.toList vs:=by simp only[aO,he,Option.bind_some]
 have dh:bt E af ⟨dst,.call ⟨.builtin b,vD,argTypes⟩,ty,pos,after,guard⟩=none:=rfl;have hef:dk E X.base af ⟨dst,.call ⟨.builtin b,vD,argTypes⟩,ty,pos,after,guard⟩ h=(y6 E X.base h b argTypes.toList vs).bind fun r=>some (.val r.1,r.2):=by simp only[dk,he,Option.bind_some]
 have gW:b≠ .len→bP E af ⟨dst,.call ⟨.builtin b,vD,argTypes⟩,ty,pos,after,guard⟩=none:=fun hb=>by
  cases b<;>first|rfl |exact absurd rfl hb
 unfold Ah at hw;split at hw
 ·rename_i t ts x xs Ch;obtain⟨xv,m,rfl,h1,h2⟩:=hr.aY;refine We L H hw h1 (fun d hd=>?_) (fun k e r hd hx=>?_)
  ·rw[hp,Ch];simp only[rU,hd,Option.bind_some]
   try rfl
  ·subst hx;simp only[bP,Ch,he,Option.bind_some,hd]
 ·rename_i st xt fl l Ch;obtain⟨sv,m,rfl,h1,h2⟩:=hr.aY;obtain⟨xv,m',rfl,h3,h4⟩:=h2.aY;obtain rfl:=h4.bU;have hxv:=h3.dV.1;subst hxv;refine H6 L H hw h1 (by rw[hp,Ch];rfl) (gW (by simp)) dh fun v h' hh=>?_;rw[hef,Ch];show(match bQ E X.base h st xt sv (.int .i64 l)with|some r=>some r|none=>jg E h st xt sv (.int .i64 l)).bind _=_;have uc:bQ E X.base h st xt sv (.int .i64 l)=none:=by
   unfold bQ;cases E.desc st with
   |none=>rfl
   |some sd=>cases E.desc xt with
    |none=>rfl
    |some xd=>
     cases sd<;>try rfl
     rename_i elem;simp only[Option.bind_some];cases E.size elem<;>try rfl
     cases E.bytes elem<;>try rfl
     cases E.zero elem<;>rfl
  rw[uc,hh];rfl
 ·rename_i st xt s x _ Ch;obtain⟨sv,m,rfl,h1,h2⟩:=hr.aY;obtain⟨xv,m',rfl,h3,h4⟩:=h2.aY;obtain rfl:=h4.bU;refine KK L H hw h1 h3 (by rw[hp,Ch];rfl) (gW (by simp)) dh fun v h' hh=>?_;rw[hef,Ch];show(match bQ E X.base h st xt sv xv with|some r=>some r|none=>jg E h st xt sv xv).bind _=_;rw[hh];rfl
 ·rename_i ts k x k' y;obtain⟨sv,m,rfl,h1,h2⟩:=hr.aY;obtain⟨xv,m',rfl,h3,h4⟩:=h2.aY;obtain rfl:=h4.bU;rw[h1.dV.1,h3.dV.1]at hp;exact fv.pure H (x:=.int k (if y>x then y else x)) (by rw[hp];rfl) (.s rfl) hw
 ·rename_i ts k x k' y;obtain⟨sv,m,rfl,h1,h2⟩:=hr.aY;obtain⟨xv,m',rfl,h3,h4⟩:=h2.aY;obtain rfl:=h4.bU;rw[h1.dV.1,h3.dV.1]at hp;exact fv.pure H (x:=.int k (if y<x then y else x)) (by rw[hp];rfl) (.s rfl) hw
 ·rename_i t ts fl Ch;obtain⟨sv,m,rfl,h1,h2⟩:=hr.aY;obtain rfl:=h2.bU;split at hw
  ·rename_i e hd;have:sv= .slice none 0 0:=by
    cases h1 with
    |nil=>rfl
    |sl q1 q2 q3=>omega
   subst this;refine fv.pure H (x:=goInt 0) ?_ (.s rfl) hw;rw[hp,Ch];simp only[rU,L.desc _ _ hd,Option.bind_some]
  ·exact hw.elim
 ·rename_i t ts m k Ch;obtain⟨mv,m1,rfl,h1,h2⟩:=hr.aY;obtain⟨kv,m',rfl,h3,h4⟩:=h2.aY;obtain rfl:=h4.bU;refine Kx L H hw h1 h3 (by rw[hp,Ch];rfl) (gW (by simp)) dh ?_;rw[hef,Ch];rfl
 ·rename_i t ts m i args Ch;obtain⟨xv,m1,rfl,h1,h2⟩:=hr.aY;split at hw
  ·rename_i elem hd;split at hw
   ·rename_i zv z es hz hl;split at hw
    ·rename_i zs jZ;split at hw
     ·rename_i hc;refine Ky L H hd hz hl jZ hc hw h1 (by rw[hp,Ch];rfl) (gW (by simp)) dh ?_;rw[hef,Ch];rfl
     ·exact hw.elim
    ·exact hw.elim
   ·exact hw.elim
  ·exact hw.elim
 ·rename_i t ts n args Ch;obtain⟨mv,m1,rfl,h1,h2⟩:=hr.aY;split at hw
  ·rename_i d kn es hd hl;refine C8 H hl (.inl ⟨_,rfl⟩) hw h1 (by rw[hp,Ch];rfl) (gW (by simp)) dh (by rw[L.desc _ _ hd];rfl) ?_ (t:=t);rw[hef,Ch];rfl
  ·rename_i d kn es op hd hl;refine C8 H hl (.inr ⟨_,_,rfl⟩) hw h1 (by rw[hp,Ch];rfl) (gW (by simp)) dh (by rw[L.desc _ _ hd];rfl) ?_ (t:=t);rw[hef,Ch];rfl
  ·exact hw.elim
 ·exact hw.elim
theorem Ia (s:ByteArray):(G9 s).length=s.size:=by simp[G9]
theorem RN {c:Nat} {ρ:Gh} {F:Nat→Prop} {h:ah}:∀{ns:List Int} {vs:List Value},ee c ρ F h (bm ns).flatten vs→vs=ns.map (Value.int .u8)
 |[],vs,H=>H.bU
 |n::ns,vs,H=>by
  obtain⟨v,oW,rfl,h1,h2⟩:=H.aY;rw[h1.dV.1,RN h2];rfl
theorem MH:∀ns:List Int,QA (ns.map (Value.int .u8))=some ns
 |[]=>rfl
 |n::ns=>by simp only[List.map_cons,QA,MH ns,Option.bind_some]
theorem Ib (L:cm T E) (H:Mem X ρ F o c h) {s d:TypeId} {x:TV} {xv:Value} (hw:Ak T s d x o c K) (hx:VR c ρ F h x xv)
 (hp:aO E af p=s8 E s d xv) (hq:bP E af p=none) (dh:bt E af p=none) (he:dk E X.base af p h=(tO E X.base h s d xv).bind fun r=>some (.val r.1,r.2)):fv E X ρ F o c af h p K:=by
 unfold Ak at hw;split at hw
 ·rename_i v;have:=hx.dV.1;subst this;split at hw
  ·rename_i str e hd;split at hw
   ·rename_i sd ed hs hed;split at hw
    ·rename_i hu;have Vf:aO E af p=none:=by rw[hp];simp[s8,L.desc _ _ hs,L.desc _ _ hd]
     have E1:ER c ρ F h 1 (G9 str) (fV str):=by
      refine⟨by simp[G9,fV],fun e he=>?_,fun e he t ht=>?_,fun i j e t v q1 q2 q3=>?_⟩
      ·simp only[G9,List.mem_map]at he;obtain⟨b,_,rfl⟩:=he;rfl
      ·simp only[G9,List.mem_map]at he;obtain⟨b,_,rfl⟩:=he;simp at ht;subst ht;rfl
      ·simp only[G9,List.getElem?_map,Option.map_eq_some_iff]at q1;obtain⟨b,q1,rfl⟩:=q1;cases j with
       |succ j=>simp at q2
       |zero=>
        simp at q2;subst q2;simp only[fV,List.getElem?_map,Nat.mul_one,Nat.add_zero,q1,Option.map_some,Option.some.injEq]at q3;subst q3;exact .s rfl
     obtain⟨M2,k2⟩:=H.E2 E1 om;refine fv.dI (x:=.slice (some ⟨h.size,0,some 1⟩) str.size (str.size+1)) (h':=h.push (.cells (fV str) h.size h.size 0)) H Vf hq dh (by rw[he];simp[tO,L.desc _ _ hs,L.desc _ _ hd,L.desc _ _ hed,hu,bL,fresh]) ⟨M2,k2,by show h.size≤h.size+1;omega,fun _ hb=>hb,fun b cs hb hr=>(eI H.wf.le _ (H.CY hb)).trans hr⟩ ?_ (fun m y hl hm=>?_) hw
     ·refine .tk om rfl (fun b z len hx=>?_) (fun z hx=>?_)
      ·rw[aR]at hx;cases hx;exact⟨str.size+1,by rw[Ia];omega,by rw[Ia]⟩
      ·rw[aR]at hx;cases hx
     ·have hmc:=H.lt hl;refine⟨⟨y,by rw[aQ,if_neg (by simp only;omega)];exact hl⟩,by rw[bA _ _ om],fun b hb=>?_⟩;have:=H.AH hl hb;exact⟨by rw[ah.al,if_neg om],fun cs hr=>by rw[eI H.wf.le _ this];exact hr⟩
    ·exact hw.elim
   ·exact hw.elim
  ·exact jN.JF H (vx hw fun x hx=>Kp L hx) hp
 ·split at hw
  ·rename_i z es Mz;split at hw
   ·rename_i e hd hs;split at hw
    ·rename_i ed hed;split at hw
     ·rename_i hc;simp only[Bool.and_eq_true,Bool.or_eq_true,beq_iff]at hc;obtain⟨hu,hz⟩:=hc;obtain⟨ns,rfl,hK⟩:=hw;obtain⟨hlen,_,_,lU⟩:=qM H Mz (n:=1) (hz.imp id fun h=>⟨h,rfl⟩) (by simp) hx;obtain⟨a,cap,rfl⟩:∃a cap,xv= .slice a (bm ns).length cap:=by
       unfold nY at hlen;split at hlen
       ·cases hlen;exact⟨_,_,rfl⟩
       ·exfalso;unfold esQ at Mz;split at Mz
        ·cases hx with|tk _ h1=>simp[Oh]at h1
        ·cases hx
        ·cases Mz
       ·cases hlen
      have Vf:aO E af p=none:=by rw[hp];simp[s8,L.desc _ _ hs,L.desc _ _ hd]
      have hce:tO E X.base h s d (.slice a (bm ns).length cap)=some (.string (strOf ns),h):=by
       simp only[tO,L.desc _ _ hs,L.desc _ _ hd,L.desc _ _ hed,hu,Option.bind_some,bL,cu,beq_iff];split
       ·rename_i h0;have:ns=[]:=by simpa[bm]using h0
        subst this;rfl
       ·rename_i h0;rcases lU with h1|⟨new,h1,_,_,_,hV⟩
        ·rw[h1]at h0;simp at h0
        ·have e2:=RN (ns:=ns) (vs:=new) (by simpa[c8]using hV);rw[h1,e2];simp only[Option.bind_some,MH]
      exact fv.dI H Vf hq dh (by rw[he,hce];rfl) (.refl H) (.s rfl) (.refl _) hK
     ·exact hw.elim
    ·exact hw.elim
   ·exact hw.elim
  ·exact hw.elim
theorem C9 {base n len:Nat} {es:List (List TV)} (hlen:es.length=len):∀{ps:List (Nat×TV)} {pv:List (Nat×Value)} {op:List (Nat×List TV)} {cs:List Value},
 (ps.all fun p=>okV p.2&&Nat.beq (aF p.2).length n&&Nat.blt p.1 len)=true→EQ c ρ F h base n [] es op cs→VX c ρ F h ps pv→
 ∃cv,kD (fun i=>some (i*n,n)) cs pv=some cv∧EQ c ρ F h base n [] es (Z0 ps op) cv
 |[],[],op,cs,_,hQ,_=>⟨cs,rfl,hQ⟩
 |[],_::_,_,_,_,_,h2=>h2.elim
 |_::_,[],_,_,_,_,h2=>h2.elim
 |q::ps,(k,x)::pv,op,cs,ha,hQ,h2=>by
  obtain⟨e0,hvx,h2⟩:=h2;obtain rfl:q.1=k:=e0;simp only[List.all_cons,Bool.and_eq_true,beq_iff,bc]at ha;obtain⟨⟨⟨MD,hqn⟩,hql⟩,ha⟩:=ha;have vy:=jO hvx MD;obtain⟨dh,jZ⟩:=vp hQ.each hQ.kr;have RO:q.1<(c8 es op).length:=by omega
  obtain⟨row,ja⟩:∃e,(c8 es op)[q.1]? =some e:=⟨_,List.getElem?_eq_getElem RO⟩;have hrl:=jZ row (List.mem_of_getElem? ja);have hC:=hQ.cell;rw[←AJ ja]at hC;obtain⟨S1,S2,S3,v1,v2,v3,e0,e1,a1,a2,a3⟩:=iI jZ RO hC;have e2:v1.length=q.1*n:=by
   have h1:=a1.len;have:=(fE jZ ja).2;rw[Nat.add_mul]at this;rw[←h1,List.length_take];omega
  have e3:v2.length=n:=by rw[←a2.len];exact hrl
  have e4:dz v2 0 x.cells.toList=some x.cells.toList:=by
   obtain⟨r,hr⟩:=mQ (n:=0) (l:=v2) (xs:=x.cells.toList) (by rw[←vy.1];omega);rw[hr,kU hr];have:v2.length≤x.cells.toList.length:=by rw[←vy.1];omega
   rw[List.take_zero,List.drop_zero,List.nil_append,List.drop_eq_nil_of_le this,List.append_nil]
  have e5:=HW (v1:=v1) (v3:=v3) e4;rw[Nat.add_zero,e2,←e1]at e5;simp only[List.append_eq_nil_iff,List.nil_eq]at e0;obtain⟨rfl,rfl,rfl⟩:=e0;have hJ:=ld jZ RO a1 (db.lP (base:=base) vy) a3;have hQ1:EQ c ρ F h base n [] es ((q.1,aF q.2)::op) (v1++(x.cells.toList++v3)):=by
   refine⟨?_,hQ.each,hQ.cl,fun p hp=>?_,hJ⟩
   ·have:=(dL e5).2.1;rw[this];exact hQ.len
   ·rcases List.mem_cons.1 hp with rfl |hp
    ·exact⟨om,hqn⟩
    ·exact hQ.kr p hp
  obtain⟨cv,g1,g2⟩:=C9 hlen ha hQ1 h2;refine⟨cv,?_,g2⟩;have:x.cells.size=n:=by have:=vy.1;simp only[Array.length_toList]at this;omega
  simp[kD,this,e5,bL,g1]
theorem RP (L:cm T E) (NX:wG E X) (H:Mem X ρ F o c h) (S:bH c ρ F h f af) (hw:YF T (VC E) p.op f o c K):fv E X ρ F o c af h p K:=by
 obtain⟨dst,op,ty,pos,after,guard⟩:=p;have N:lR T F h:=(NX.now H).sub L;simp only at hw;unfold YF at hw;split at hw
 ·exact hw.elim
 ·rename_i mR;cases op with
  |move x=>
   obtain⟨v,h1,h2⟩:=jD (E:=E) L N S mR (x:=x) (by simp[Op.operands]);obtain⟨hK,_⟩:=eR hw;exact fv.pure H (x:=v) h1 h2 hK
  |assign x=>
   obtain⟨v,h1,h2⟩:=jD (E:=E) L N S mR (x:=x) (by simp[Op.operands]);obtain⟨hK,_⟩:=eR hw;exact fv.pure H (x:=v) h1 h2 hK
  |pick q a b=>
   obtain⟨qv,h1,h2⟩:=jD (E:=E) L N S mR (x:=q) (by simp[Op.operands]);obtain⟨av,h3,h4⟩:=jD (E:=E) L N S mR (x:=a) (by simp[Op.operands]);obtain⟨bv,h5,h6⟩:=jD (E:=E) L N S mR (x:=b) (by simp[Op.operands]);simp only at hw;split at hw
   ·rename_i qb he;rw[he]at h2;have:=h2.dV.1;subst this;split at hw
    ·obtain⟨hK,_⟩:=eR hw;exact fv.pure H (x:=av) (by simp[aO,h1,h3,Gs]) h4 hK
    ·obtain⟨hK,_⟩:=eR hw;exact fv.pure H (x:=bv) (by simp[aO,h1,h5,Gs]) h6 hK
   ·exact hw.elim
  |alloc t=>
   simp only at hw;split at hw
   ·rename_i z hz;split at hw
    ·rename_i zs jZ;obtain⟨ku,pR⟩:=L.zero _ _ hz;exact wQ H (gN pR jZ) rfl rfl (by simp[bt,ku]) hw
    ·exact hw.elim
   ·exact hw.elim
  |box t x=>
   obtain⟨v,h1,h2⟩:=jD (E:=E) L N S mR (x:=x) (by simp[Op.operands]);simp only at hw;obtain⟨hK,bC⟩:=eR hw;have dh:bt E af ⟨dst,.box t x,ty,pos,after,guard⟩=some (.cells v.cells.toList,.ptr):=by simp[bt,h1]
   split at hK
   ·exact hK.elim
   ·exact hK.elim
   ·exact hK.elim
   ·exact hK.elim
   ·rename_i cs he;have vy:=jO h2 (by rw[he];rfl);rw[he]at vy;exact wQ H vy rfl rfl dh hK
   ·rename_i n1 n2 n4 n5 n3;have k9:okV (nq T f x)=true:=by
     cases he:nq T f x with
     |j=>exact absurd he n1
     |cB cs=>exact absurd he (n2 cs)
     |sv a b=>exact absurd he (n4 a b)
     |pv a b=>exact absurd he (n5 a b)
     |_=>rfl
    have vy:=jO h2 k9;have hce:aF (nq T f x)=[nq T f x]:=by
     cases he:nq T f x with
     |agg cs=>exact absurd he (n3 cs)
     |_=>rfl
    rw[hce]at vy;exact wQ H vy rfl rfl dh hK
  |build t ps=>
   obtain⟨pv,h1,h2⟩:=pj (E:=E) L N S (l:=ps.toList) (by simpa[Op.operands]using mR);exact jN.JF H (Oy L hw h2) (by simp[aO,h1])
  |buildSlice t len ps=>
   obtain⟨pv,h1,h2⟩:=pj (E:=E) L N S (l:=ps.toList) (by simpa[Op.operands]using mR);simp only at hw;unfold xR at hw;split at hw
   ·rename_i elem hd;split at hw
    ·rename_i n z hn hz;obtain⟨ku,pR⟩:=L.zero _ _ hz;split at hw
     ·rename_i zs hc jZ;simp only[Bool.and_eq_true,beq_iff,aL,bc]at hc;obtain⟨⟨kR,tT⟩,Vu⟩:=hc;split at hw
      ·rename_i es Vg Zv;have tV:=gN (c:=c) (ρ:=ρ) (F:=F) (h:=h) pR jZ;have On:zs.length=n:=by have:=tV.1;simp only[Array.length_toList]at this;omega
       obtain⟨F',cv,S',b1,b2,b3⟩:=C7 H Zv (ER.replicate tV On Vg len) h2;have Mu:es.length=len:=by rw[b3];simp
       refine MA H S' (cap:=len) b2 Vu om rfl rfl ?_ hw;simp only[bt,L.desc _ _ hd,Option.bind_some,h1,L.size _ _ hn,ku,tT,aL.2 kR,bL];rw[Mu];simp[b1]
      ·rename_i Vg Zv;split at hw
       ·rename_i ni;have tV:=gN (c:=c) (ρ:=ρ) (F:=F) (h:=h) pR jZ;have On:zs.length=n:=by have:=tV.1;simp only[Array.length_toList]at this;omega
        have hE:=ER.replicate tV On Vg len
        have hQ0:EQ c ρ F h X.base n [] (List.replicate len zs) [] (aW z.cells.toList len):=
         ⟨hE.len,hE.each,fun e he t ht=>by
          have:=hE.fz e he t ht;unfold nV;split<;>first|rfl |exact this,by simp,db.lP (iP hE.len hE.each hE.cell)⟩
        obtain⟨cv,g1,hQ⟩:=C9 (by simp) ni hQ0 h2;obtain⟨M1,k1⟩:=H.Kf hQ Vu;refine fv.alloc H (.refl H) (md:=.cells cv) (hd:=.slice n len len) rfl rfl ?_ M1 k1 (.tk om rfl (fun b z' len' hx=>?_) (fun z' hx=>?_)) hw
        ·simp only[bt,L.desc _ _ hd,Option.bind_some,h1,L.size _ _ hn,ku,tT,aL.2 kR,bL];simp[g1]
        ·rw[aR]at hx;cases hx;exact⟨len,by simp,by simp[tM.val]⟩
        ·rw[aR]at hx;cases hx
       ·exact hw.elim
      ·exact hw.elim
     ·exact hw.elim
    ·exact hw.elim
   ·exact hw.elim
  |load t a=>
   obtain⟨av,h1,h2⟩:=jD (E:=E) L N S mR (x:=a) (by simp[Op.operands]);obtain⟨q,h3,h4⟩:=Rx L H hw h2;exact h4.JF rfl (by simp only[bP,h1,Option.bind_some];exact h3)
  |store t a v=>
   obtain⟨av,h1,h2⟩:=jD (E:=E) L N S mR (x:=a) (by simp[Op.operands]);obtain⟨vv,h3,h4⟩:=jD (E:=E) L N S mR (x:=v) (by simp[Op.operands]);exact OC L H hw h2 h4 rfl rfl rfl (by simp only[dk,h1,h3,Option.bind_some];rfl)
  |nilCheck x=>
   obtain⟨v,h1,h2⟩:=jD (E:=E) L N S mR (x:=x) (by simp[Op.operands]);simp only at hw;split at hw
   ·rename_i n q he;rw[he]at h2;cases h2 with
    |ptr hb=>exact fv.pure H (by simp[aO,h1,nZ]) (.ptr hb) hw
   ·rename_i e q he;rw[he]at h2;cases h2 with
    |ep a1 a2 a3 a4 a5=>exact fv.pure H (by simp[aO,h1,nZ]) (.ep a1 a2 a3 a4 a5) hw
   ·rename_i g a b he;rw[he]at h2;cases h2 with
    |dg a1 a2 a3 a4=>exact fv.pure H (by simp[aO,h1,nZ]) (.dg a1 a2 a3 a4) hw
   ·exact hw.elim
  |binOp bop t x y t2=>
   obtain⟨av,h1,h2⟩:=jD (E:=E) L N S mR (x:=x) (by simp[Op.operands]);obtain⟨bv,h3,h4⟩:=jD (E:=E) L N S mR (x:=y) (by simp[Op.operands]);exact jN.JF H (VY L H hw h2 h4) (by simp[aO,h1,h3])
  |unOp uop t x=>
   obtain⟨v,h1,h2⟩:=jD (E:=E) L N S mR (x:=x) (by simp[Op.operands]);simp only at hw;split at hw
   ·rename_i w he;split at hw
    ·rename_i hs;rw[he]at h2;have:=h2.dV.1;subst this;exact jN.JF H (vx hw fun x hx=>hx) (by simp[aO,h1,hs,bL])
    ·exact hw.elim
   ·exact hw.elim
  |convert s d x=>
   obtain⟨v,h1,h2⟩:=jD (E:=E) L N S mR (x:=x) (by simp[Op.operands]);exact Ib L H hw h2 (by simp[aO,h1]) rfl rfl (by simp[dk,h1])
  |makeInterface t x=>
   obtain⟨v,h1,h2⟩:=jD (E:=E) L N S mR (x:=x) (by simp[Op.operands]);simp only at hw;split at hw
   ·exact hw.elim
   ·exact hw.elim
   ·rename_i d hd n1;split at hw
    ·exact hw.elim
    ·refine fv.pure H (x:=.iface t v) ?_ (.oP h2) hw;simp only[aO,L.desc _ _ n1,Option.bind_some,h1]
  |makeFunc fn first captured=>
   simp only at hw;split at hw
   ·rename_i g;have he:(first.toList.all (ui T)=true)∧(captured.toList.all (ui T)=true):=by
     simpa[Op.operands]using mR
    obtain⟨a,h1,h2⟩:=qE (E:=E) L N S he.1;obtain⟨b,h3,h4⟩:=qE (E:=E) L N S he.2;exact fv.pure H (x:=.func (.func g) a.toArray b.toArray) (by simp[aO,h1,h3]) (.dg (by simpa using h2.1) (fun i t v q1 q2=>h2.2 i t v q1 (by simpa using q2)) (by simpa using h4.1) (fun i t v q1 q2=>h4.2 i t v q1 (by simpa using q2))) hw
   ·exact hw.elim
  |makeMap t r=>
   cases r with
   |some r=>exact hw.elim
   |none=>
    simp only at hw;split at hw
    ·split at hw
     ·split at hw
      ·exact V5 H _ rfl rfl rfl hw
      ·exact hw.elim
     ·exact hw.elim
    ·exact hw.elim
  |makeSlice t l k=>
   obtain⟨lv,h1,h2⟩:=jD (E:=E) L N S mR (x:=l) (by simp[Op.operands]);obtain⟨kv,h3,h4⟩:=jD (E:=E) L N S mR (x:=k) (by simp[Op.operands]);simp only at hw;unfold Ai at hw;split at hw
   ·rename_i elem li ki hd hli hki;split at hw
    ·rename_i n bytes z hn Jz hz;obtain⟨ku,pR⟩:=L.zero _ _ hz;split at hw
     ·rename_i zs hc jZ;simp only[Bool.and_eq_true,beq_iff,bc]at hc;obtain⟨hc,KF⟩:=hc;split at hw
      ·rename_i Vg;obtain⟨⟨b1,b2,b30⟩,hK⟩:=hw;have b3:(ki+1)*((bytes:Int)+1)≤1099511627776:=by
        have h1:(ki.toNat+1)*(bytes+1)≤1099511627776:=size_le om KF;have h2:ki=(ki.toNat:Int):=by omega
        rw[h2];have h3:=Int.ofNat_le.2 h1;rw[Int.natCast_mul]at h3;exact h3
       have tV:=gN (c:=c) (ρ:=ρ) (F:=F) (h:=h) pR jZ;have On:zs.length=n:=by have:=tV.1;simp only[Array.length_toList]at this;omega
       have hE:=ER.replicate tV On Vg li.toNat
       refine MA H (.refl H) (cap:=bif Nat.beq li.toNat ki.toNat then li.toNat else li.toNat+1) hE hc.2 (by simp only[List.length_replicate,cu];split<;>omega) rfl rfl ?_ hK;simp only[bt,L.desc _ _ hd,Option.bind_some,h1,h3,ow hli h2,ow hki h4,L.size _ _ hn,L.bytes _ _ Jz,ku,hc.1,bL];simp[b1,b2,b3]
      ·exact hw.elim
     ·exact hw.elim
    ·exact hw.elim
   ·exact hw.elim
  |slice t x lo hi mx=>
   obtain⟨xv,h1,h2⟩:=jD (E:=E) L N S mR (x:=x) (by simp[Op.operands]);obtain⟨AA,h3,h4⟩:=evO (E:=E) L N S mR (x:=lo) (fun y e=>by subst e;simp[Op.operands]);obtain⟨hiv,h5,h6⟩:=evO (E:=E) L N S mR (x:=hi) (fun y e=>by subst e;simp[Op.operands]);obtain⟨Vj,h7,h8⟩:=evO (E:=E) L N S mR (x:=mx) (fun y e=>by subst e;simp[Op.operands]);exact(Ow L H hw h2 h4 h6 h8).JF H (by simp[aO,h1,h3,h5,h7])
  |fieldAddr s x fd=>
   obtain⟨v,h1,h2⟩:=jD (E:=E) L N S mR (x:=x) (by simp[Op.operands]);exact jN.JF H (Cb L H hw h2) (by simp only[aO,h1,Option.bind_some];rfl)
  |field t x fd=>
   obtain⟨v,h1,h2⟩:=jD (E:=E) L N S mR (x:=x) (by simp[Op.operands]);exact jN.JF H (Ou L hw h2) (by simp only[aO,h1,Option.bind_some];rfl)
  |indexAddr t x i=>
   obtain⟨v,h1,h2⟩:=jD (E:=E) L N S mR (x:=x) (by simp[Op.operands]);obtain⟨iv,h3,h4⟩:=jD (E:=E) L N S mR (x:=i) (by simp[Op.operands]);exact jN.JF H (Cc L H hw h2 h4) (by simp[aO,h1,h3])
  |index t x i=>
   obtain⟨v,h1,h2⟩:=jD (E:=E) L N S mR (x:=x) (by simp[Op.operands]);obtain⟨iv,h3,h4⟩:=jD (E:=E) L N S mR (x:=i) (by simp[Op.operands]);exact jN.JF H (Ov L hw h2 h4) (by simp[aO,h1,h3])
  |lookup t x i ok=>
   obtain⟨v,h1,h2⟩:=jD (E:=E) L N S mR (x:=x) (by simp[Op.operands]);obtain⟨iv,h3,h4⟩:=jD (E:=E) L N S mR (x:=i) (by simp[Op.operands]);rcases Ks L H hw h2 h4 with⟨rfl,R⟩|⟨r,rfl,q,hq,R⟩
   ·exact jN.JF H R (by simp only[aO,h1,h3,Option.bind_some];cases E.desc t with|none=>rfl |some d=>cases d<;>rfl)
   ·refine R.JF ?_ (by simp only[bP,h1,h3,Option.bind_some];exact hq);simp only[aO,h1,h3,Option.bind_some];cases E.desc t with
    |none=>rfl
    |some d=>cases d<;>rfl
  |mapUpdate t m k v=>
   obtain⟨mv,h1,h2⟩:=jD (E:=E) L N S mR (x:=m) (by simp[Op.operands]);obtain⟨kv,h3,h4⟩:=jD (E:=E) L N S mR (x:=k) (by simp[Op.operands]);obtain⟨vv,h5,h6⟩:=jD (E:=E) L N S mR (x:=v) (by simp[Op.operands]);exact Cg L H hw h2 h4 h6 rfl rfl rfl (by simp only[dk,h1,h3,h5,Option.bind_some];rfl)
  |extract t i=>
   obtain⟨v,h1,h2⟩:=jD (E:=E) L N S mR (x:=t) (by simp[Op.operands]);simp only at hw;split at hw
   ·rename_i vs he;rw[he]at h2;obtain⟨a,rfl,h3⟩:=h2.vm;split at hw
    ·rename_i w hi;obtain⟨hK,_⟩:=eR hw;have bw:=(List.getElem?_eq_some_iff.1 hi).1;have nF:i<a.toList.length:=by rw[←h3.1];exact bw
     obtain⟨x,hx⟩:∃x,a.toList[i]? =some x:=⟨_,List.getElem?_eq_getElem nF⟩;exact fv.pure H (x:=x) (by simp only[aO,h1,Option.bind_some];exact hx) (h3.2 i w x hi hx) hK
    ·exact hw.elim
   ·exact hw.elim
  |call q=>
   obtain⟨callee,vD,argTypes⟩:=q;simp only at hw;split at hw
   ·rename_i b;have aiV:vD.toList.all (ui T)=true:=by simpa[Op.operands,Call.operands]using mR
    obtain⟨vs,h1,h2⟩:=qE (E:=E) L N S aiV;exact H9 L H hw h2 h1
   ·rename_i g;have he:ui T g=true∧vD.toList.all (ui T)=true:=by simpa[Op.operands,Call.operands]using mR
    obtain⟨gv,h1,h2⟩:=se (E:=E) L N S he.1;obtain⟨vs,h3,h4⟩:=qE (E:=E) L N S he.2;split at hw
    ·rename_i g' a b hg;rw[hg]at h2;cases h2 with
     |dg hs ha ht hk=>
      rename_i a' k';have zN:ee c ρ F h a a'.toList:=⟨by simpa using hs,fun i t v q1 q2=>ha i t v q1 (by simpa using q2)⟩;have r7:ee c ρ F h b k'.toList:=⟨by simpa using ht,fun i t v q1 q2=>hk i t v q1 (by simpa using q2)⟩;refine RL NX H (L.still g') hw ((zN.append h4).append r7) rfl rfl rfl ?_;simp only[dk,h3,h1,Option.bind_some]
    ·exact hw.elim
   ·exact hw.elim
  |_=>exact hw.elim
end
def Fk (h:ah) (b:Nat):Prop:=(∃cs,h.rd b=some cs)∨∃ob,h.get b=some ob∧∀cs f t th,ob≠ .cells cs f t th
theorem Mem.live {X:Cx} {ρ:Gh} {F:Nat→Prop} {o:Ob} {c:Nat} {h:ah} (H:Mem X ρ F o c h) {m:Nat} {y:TO} {b:Nat} (hl:look o m=some y) (hb:C2 ρ m b):Fk h b:=by
 obtain⟨Sm,hO⟩:=H.cC hl;cases hO with
 |cells h1 hg ht hc=>
  rcases hb with hb|⟨z,l,hb⟩<;>rw[h1]at hb<;>cases hb
  exact .inl (⟨_,eu (bR hg hg) ht (by unfold ah.cellsOf;rw[hg])⟩)
 |map h1 hg=>rcases hb with hb|⟨z,l,hb⟩<;>rw[h1]at hb<;>cases hb;exact .inr ⟨_,hg,by simp⟩
 |fp h1 hg=>rcases hb with hb|⟨z,l,hb⟩<;>rw[h1]at hb<;>cases hb;exact .inr ⟨_,hg,by simp⟩
 |iA h1 hg=>rcases hb with hb|⟨z,l,hb⟩<;>rw[h1]at hb<;>cases hb;exact .inr ⟨_,hg,by simp⟩
 |nil h1=>rcases hb with hb|⟨z',l,hb⟩<;>rw[h1]at hb<;>cases hb
 |ib h1=>rcases hb with hb|⟨z',l,hb⟩<;>rw[h1]at hb<;>cases hb
 |arr h1 hg hf ht=>rcases hb with hb|⟨z',l,hb⟩<;>rw[h1]at hb<;>cases hb;exact .inl (⟨_,eu hf ht (by unfold ah.cellsOf;rw[hg])⟩)
 |cF h1 hg hf ht=>rcases hb with hb|⟨z',l,hb⟩<;>rw[h1]at hb<;>cases hb;exact .inl (⟨_,eu hf ht (by unfold ah.cellsOf;rw[hg])⟩)
theorem AO:∀{o:Ob} {m:Nat},m∈nmO o→∃y,look o m=some y
 |[],m,h=>by simp[nmO]at h
 |p::o,m,h=>by
  rw[aQ];by_cases e:p.1=m
  ·exact⟨p.2,by simp[e]⟩
  ·rw[if_neg e];simp only[nmO,List.mem_cons]at h;rcases h with h|h
   ·exact absurd h.symm e
   ·exact AO h
def Wg:TV→Bool
 | .mp _=>true
 | .ptr _ _=>true
 |_=>false
def po (ρ:Gh) (o:Ob) (h:ah):Prop:=∀n cs p v,look o n=some (.cells cs)→cs[p]? =some v→Wg v=true→∃b x,ρ n=some (.dJ b)∧ai h b p 1=some [x]∧lS ρ v x
theorem Mem.Fl {X:Cx} {ρ:Gh} {F:Nat→Prop} {o:Ob} {c:Nat} {h:ah} (H:Mem X ρ F o c h):po ρ o h:=by
 intro n cs p v hl hp hv;obtain⟨Sm,hO⟩:=H.cC hl;cases hO with
 |cells hb hg ht hc=>
  rename_i S b aS cv;obtain⟨S1,S2,S3,_,a1,a2,a3⟩:=hc.part p 1;have bw:=(List.getElem?_eq_some_iff.1 hp).1;have e1:(cs.drop p).take 1=[v]:=by
   rw[List.drop_eq_getElem_cons bw,List.take_succ_cons,List.take_zero];rw[(List.getElem?_eq_some_iff.1 hp).2]
  rw[e1]at a2;have hV:=a2.vrs (fun t v hv hf=>hv.eo hf) (by cases v<;>first|rfl |simp[Wg]at hv);obtain⟨x,m1,e2,hx,zE⟩:=hV.1.aY;obtain rfl:=zE.bU;have hlen:=hc.len;have gW:=eu (bR hg hg) ht (az hg);refine⟨b,x,hb,?_,?_⟩
  ·unfold ai;rw[gW];simp only[Option.bind_some,bf];exact⟨by rw[List.length_drop];omega,e2.symm⟩
  ·cases v with
   |mp k=>cases hx with|mp h1=>exact .inl ⟨_,_,rfl,h1,rfl⟩
   |ptr k q=>cases hx with|ptr h1=>exact .inr ⟨_,_,_,rfl,h1,rfl⟩
   |_=>simp[Wg]at hv
inductive wT (oF:Ob):Gh→(Nat→Prop)→Ob→ah→List VN→List eK→Prop
 |nil {ρ:Gh} {F:Nat→Prop} {h:ah} (cH:po ρ oF h):wT oF ρ F oF h [] []
 |cons {ρ ρ':Gh} {F F':Nat→Prop} {o o':Ob} {h h':ah} {l:VL} {e:eK} {ls:List VN} {es:List eK} (hl:gy ρ F o h ρ' o' h' l e) (hw:Wf h) (hs:h.size≤h'.size) (hF:∀b,F b→F' b) (c7:∀b cs,F b→h.rd b=some cs→h'.rd b=some cs)
  (Wh:∀m y b,look o m=some y→C2 ρ m b→Fk h b) (qL:∀k b,ρ k=some (.dJ b)→ρ' k=some (.dJ b)) (cH:po ρ o h) (hr:wT oF ρ' F' o' h' ls es):wT oF ρ F o h ((l,o)::ls) (e::es)
theorem wT.next {oF:Ob} {ρ:Gh} {F:Nat→Prop} {o:Ob} {h:ah} {ls:List VN} {es:List eK} (H:wT oF ρ F o h ls es):Mp oF ls=o∧po ρ o h:=by
 cases H with
 |nil cH=>exact⟨rfl,cH⟩
 |cons _ _ _ _ _ _ _ cH _=>exact⟨rfl,cH⟩
theorem zk {h:ah} (W:Wf h) (q:RQ):tP h q=true:=by
 unfold tP;rw[cu];split
 ·rename_i hb;split
  ·rename_i f t th hg;rw[bc]at hb ⊢;have:=W.le _ _ _ _ _ hg;omega
  ·rfl
 ·rfl
theorem AP {h:ah} (W:Wf h) {q:RQ} (hn:mO q h):q.dJ<h.size:=by
 cases q with
 |cells a b o n=>
  obtain⟨l,h1,_⟩:=hn;unfold ai at h1;simp only[Option.bind_eq_some_iff]at h1;obtain⟨cs,h2,_⟩:=h1;obtain⟨f,t,th,hg⟩:=Ao h2;exact W.lt hg
 |look r kd k z ok=>
  obtain⟨m,h1,_⟩:=hn;unfold fj at h1;split at h1
  ·rename_i hg;exact W.lt hg
  ·cases h1
 |len r=>
  obtain⟨m,h1,_⟩:=hn;unfold fj at h1;split at h1
  ·rename_i hg;exact W.lt hg
  ·cases h1
theorem jQ {h h':ah} {q:RQ} (hn:mO q h) (hg:(∃a b o n,q= .cells a b o n)∨h'.get q.dJ=h.get q.dJ) (hr:∀cs,h.rd q.dJ=some cs→h'.rd q.dJ=some cs):mO q h'∧gl h h' q=true:=by
 cases q with
 |cells a b o n=>
  obtain⟨l,h1,h2⟩:=hn;have h3:ai h' b o n=some l:=by
   unfold ai at h1 ⊢;simp only[Option.bind_eq_some_iff]at h1 ⊢;obtain⟨cs,h4,h5⟩:=h1;exact⟨cs,hr cs h4,h5⟩
  refine⟨⟨l,h3,h2⟩,?_⟩;unfold gl;rw[Bool.or_eq_true];left;unfold my;rw[cu];split
  ·simp only[h1,h3,h2]
  ·rfl
 |look r kd k z ok=>
  obtain⟨m,h1,h2⟩:=hn;have lu:h'.get r=h.get r:=by
   rcases hg with⟨a,b,o,n,e⟩|hg
   ·cases e
   ·exact hg
  have h3:fj h' r=some m:=by unfold fj at h1 ⊢;rw[lu];exact h1
  refine⟨⟨m,h3,h2⟩,?_⟩;unfold gl;rw[Bool.or_eq_true];left;unfold my;rw[cu];split
  ·simp only[h1,h3,h2]
  ·rfl
 |len r=>
  obtain⟨m,h1,h2⟩:=hn;have lu:h'.get r=h.get r:=by
   rcases hg with⟨a,b,o,n,e⟩|hg
   ·cases e
   ·exact hg
  have h3:fj h' r=some m:=by unfold fj at h1 ⊢;rw[lu];exact h1
  refine⟨⟨m,h3,h2⟩,?_⟩;unfold gl;rw[Bool.or_eq_true];left;unfold my;rw[cu];split
  ·simp only[h1,h3,h2]
  ·rfl
theorem iR (h:ah) (q:RQ):gl h h q=true:=by
 unfold gl;rw[Bool.or_eq_true];exact .inr (decide_eq_true (inst:=Classical.propDecidable _) rfl)
section
variable {bs:List Nat} {i:Nat} {oF:Ob}
theorem vE:∀{ls:List VN} {j:Nat},gm bs oF j ls=true→∀l∈ls,l.1≠ .bad
 |[],_,_,l,hl=>by simp at hl
 |x::ls,j,hd,l,hl=>by
  have key:gm bs oF (j+1) ls=true∧x.1≠ .bad:=by
   obtain⟨x,nm⟩:=x;cases x<;>simp only[gm,Bool.and_eq_true]at hd
   ·exact⟨hd,by simp⟩
   ·exact⟨hd,by simp⟩
   ·exact⟨hd,by simp⟩
   ·exact⟨hd.2,by simp⟩
   ·exact⟨hd.2,by simp⟩
   ·exact⟨hd.2,by simp⟩
   ·exact⟨hd.2,by simp⟩
   ·exact⟨hd.2,by simp⟩
   ·cases hd
  rcases List.mem_cons.1 hl with rfl |h1
  ·exact key.2
  ·exact vE key.1 l h1
theorem YP {q:RQ} (hc:∃a b o n,q= .cells a b o n) {zI:ah}:∀{ls:List VN} {es:List eK} {ρ:Gh} {F:Nat→Prop} {o:Ob} {h:ah} {j:Nat},wT oF ρ F o h ls es→(∀l∈ls,l.1≠ .bad)→F q.dJ→mO q h→cI bs i (.rd q zI) j es=true
 |_,_,ρ,F,_,h,j,.nil _,_,_,_=>rfl
 |_,_,ρ,F,o,h,j,.cons (h':=h') (l:=l) (e:=e) hl hw hs hF c7 Wh qL cH hr,nk,hFq,hn=>by
  obtain⟨k1,k2⟩:=jQ (h':=h') hn (.inl hc) (fun cs=>c7 _ cs hFq);have ih:=YP hc (zI:=zI) (j:=j+1) hr (fun l hl=>nk l (List.mem_cons_of_mem _ hl)) (hF _ hFq) k1;simp only[cI,Bool.and_eq_true];refine⟨?_,ih⟩;cases hl with
  |pure=>rfl
  |alloc=>exact zk hw q
  |Mk=>rfl
  |mi=>rfl
  |vg=>rfl
  |dI=>simp[bk,k2]
  |pY hr hh=>subst hh;simp[bk,iR]
  |pZ=>simp[bk,k2]
  |bad=>exact absurd rfl (nk _ List.mem_cons_self)
theorem qN {q:RQ} {n:Nat} {zI:ah}:∀{ls:List VN} {es:List eK} {ρ:Gh} {F:Nat→Prop} {o:Ob} {h:ah} {j:Nat} {eO:Bool},wT oF ρ F o h ls es→(∀l∈ls,l.1≠ .bad)→qu bs i n j ls eO=true→
 (eO=false→(∃y,look o n=some y)∧C2 ρ n q.dJ∧mO q h)→cI bs i (.rd q zI) j es=true
 |_,_,ρ,F,_,h,j,eO,.nil _,_,_,_=>rfl
 |_,_,ρ,F,o,h,j,eO,.cons (ρ':=ρ') (o':=o') (h':=h') (l:=l) (e:=e) (ls:=ls) hl hw hs hF c7 Wh qL cH hr,nk,hp,ht=>by
  have df:∀l∈ls,l.1≠ .bad:=fun l hl=>nk l (List.mem_cons_of_mem _ hl)
  -- an operation that leaves the object alone
  have quiet:∀ns,Raw ρ o h ρ' o' h' ns→n∉ns→eO=false→((∃y,look o' n=some y)∧C2 ρ' n q.dJ∧mO q h')∧gl h h' q=true:=by
   intro ns bO Ep hd;obtain⟨⟨y,hy⟩,hat,hn⟩:=ht hd;obtain⟨⟨y',r1⟩,r2,r3⟩:=bO n y hy Ep;obtain⟨r4,r5⟩:=r3 _ hat
   obtain⟨k1,k2⟩:=jQ hn (.inr r4) r5;exact⟨⟨⟨y',r1⟩,by unfold C2 at hat ⊢;rw[r2];exact hat,k1⟩,k2⟩
  simp only[cI,Bool.and_eq_true];cases hl with
  |pure bO=>exact⟨rfl,qN hr df hp fun hd=>(quiet _ bO (by simp) hd).1⟩
  |alloc bO=>exact⟨zk hw q,qN hr df hp fun hd=>(quiet _ bO (by simp) hd).1⟩
  |Mk bO=>exact⟨rfl,qN hr df hp fun hd=>(quiet _ bO (by simp) hd).1⟩
  |mi bO=>exact⟨rfl,qN hr df hp fun hd=>(quiet _ bO (by simp) hd).1⟩
  |vg bO=>exact⟨rfl,qN hr df hp fun hd=>(quiet _ bO (by simp) hd).1⟩
  |dI bO=>
   rename_i ns;simp only[qu]at hp;split at hp
   ·rename_i hc;simp only[Bool.and_eq_true]at hp;exact⟨by simp[bk,hp.1],qN hr df hp.2 fun hd=>by cases hd⟩
   ·rename_i hc;have hd:eO=false:=by cases eO<;>simp_all
    have Ep:n∉ns:=by subst hd;simpa using hc
    obtain⟨q1,q2⟩:=quiet _ bO Ep hd;exact⟨by simp[bk,q2],qN hr df hp fun _=>q1⟩
  |pY bO hh=>
   rename_i ns;subst hh;simp only[qu]at hp;refine⟨by simp[bk,iR],qN hr df hp fun hd=>?_⟩;simp only[Bool.or_eq_false_iff]at hd;exact(quiet _ bO (by simpa using hd.2) hd.1).1
  |pZ bO=>
   simp only[qu]at hp;split at hp
   ·simp only[Bool.and_eq_true]at hp;exact⟨by simp[bk,hp.1],qN hr df hp.2 fun hd=>by cases hd⟩
   ·obtain⟨q1,q2⟩:=quiet _ bO (by simp) rfl;exact⟨by simp[bk,q2],qN hr df hp fun _=>q1⟩
  |bad=>exact absurd rfl (nk _ List.mem_cons_self)
theorem lS.bx {ρ ρ':Gh} {v:TV} {x:Value} (H:lS ρ v x) (hk:∀k b,ρ k=some (.dJ b)→ρ' k=some (.dJ b)):lS ρ' v x:=by
 rcases H with⟨k,b,h1,h2,h3⟩|⟨k,q,b,h1,h2,h3⟩
 ·exact .inl ⟨k,b,h1,hk _ _ h2,h3⟩
 ·exact .inr ⟨k,q,b,h1,hk _ _ h2,h3⟩
theorem lS.uniq {ρ:Gh} {v:TV} {x y:Value} (H:lS ρ v x) (K:lS ρ v y):x=y:=by
 rcases H with⟨k,b,rfl,h2,rfl⟩|⟨k,q,b,rfl,h2,rfl⟩<;>rcases K with⟨k',b',e,k2,rfl⟩|⟨k',q',b',e,k2,rfl⟩<;>cases e<;>rw[h2]at k2<;>cases k2<;>rfl
theorem lS.Gt {ρ:Gh} {v:TV} {x:Value} (H:lS ρ v x):gZ [x] [x]=true∧Wg v=true:=by
 rcases H with⟨k,b,rfl,h2,rfl⟩|⟨k,q,b,rfl,h2,rfl⟩<;>exact⟨by simp[gZ,ka],rfl⟩
theorem Da {v w:TV} (h:EX v w=true):w=v:=by
 cases v<;>cases w<;>simp[EX]at h
 ·obtain⟨rfl,rfl⟩:=h;rfl
 ·subst h;rfl
theorem jR {n p b:Nat} {v:TV} {x:Value} {zI:ah}:∀{ls:List VN} {es:List eK} {ρ:Gh} {F:Nat→Prop} {o:Ob} {h:ah} {j:Nat} {eO:Bool},wT oF ρ F o h ls es→(∀l∈ls,l.1≠ .bad)→oq bs i n p v oF j ls eO=true→
 (eO=false→(∃y,look o n=some y)∧ρ n=some (.dJ b)∧ai h b p 1=some [x]∧lS ρ v x)→cI bs i (.rd (.cells false b p 1) zI) j es=true
 |_,_,ρ,F,_,h,j,eO,.nil _,_,_,_=>rfl
 |_,_,ρ,F,o,h,j,eO,.cons (ρ':=ρ') (o':=o') (h':=h') (l:=l) (e:=e) (ls:=ls) hl hw hs hF c7 Wh qL cH hr,nk,hp,ht=>by
  have df:∀l∈ls,l.1≠ .bad:=fun l hl=>nk l (List.mem_cons_of_mem _ hl);have same:∀{h1:ah},eO=false→ai h1 b p 1=some [x]→gl h h1 (.cells false b p 1)=true:=by
   intro h1 hd h2;obtain⟨_,_,h3,h4⟩:=ht hd;unfold gl;rw[Bool.or_eq_true];left;unfold my;rw[cu];split
   ·simp only[h3,h2,h4.Gt.1]
   ·rfl
  have quiet:∀ns,Raw ρ o h ρ' o' h' ns→n∉ns→eO=false→(∃y,look o' n=some y)∧ρ' n=some (.dJ b)∧ai h' b p 1=some [x]∧lS ρ' v x:=by
   intro ns bO Ep hd;obtain⟨⟨y,hy⟩,hb,gW,hx⟩:=ht hd;obtain⟨⟨y',r1⟩,r2,r3⟩:=bO n y hy Ep;obtain⟨r4,r5⟩:=r3 _ (.inl hb);refine⟨⟨y',r1⟩,qL _ _ hb,?_,hx.bx qL⟩;unfold ai at gW ⊢;simp only[Option.bind_eq_some_iff]at gW ⊢;obtain⟨cs,h4,h5⟩:=gW;exact⟨cs,r5 cs h4,h5⟩
  simp only[cI,Bool.and_eq_true];cases hl with
  |pure bO=>exact⟨rfl,jR hr df hp fun hd=>quiet _ bO (by simp) hd⟩
  |alloc bO=>exact⟨zk hw _,jR hr df hp fun hd=>quiet _ bO (by simp) hd⟩
  |Mk bO=>exact⟨rfl,jR hr df hp fun hd=>quiet _ bO (by simp) hd⟩
  |mi bO=>exact⟨rfl,jR hr df hp fun hd=>quiet _ bO (by simp) hd⟩
  |vg bO=>exact⟨rfl,jR hr df hp fun hd=>quiet _ bO (by simp) hd⟩
  |dI bO=>
   rename_i ns;simp only[oq]at hp;split at hp
   ·simp only[Bool.and_eq_true]at hp;exact⟨by simp[bk,hp.1],jR (x:=x) hr df hp.2 fun hd=>by cases hd⟩
   ·split at hp
    ·rename_i hc;have Ep:n∉ns:=by simpa using hc
     have q1:=quiet _ bO Ep rfl;exact⟨by simp[bk,same rfl q1.2.2.1],jR hr df hp fun _=>q1⟩
    ·split at hp
     ·rename_i hcm;obtain⟨e1,e2⟩:=hr.next;rw[e1]at hcm;unfold qw at hcm;split at hcm
      ·rename_i cs yJ;split at hcm
       ·rename_i w yV;obtain rfl:=Da hcm;obtain⟨_,hb,_,hx⟩:=ht rfl;obtain⟨b',x',k1,k2,k3⟩:=e2 n cs p _ yJ yV hx.Gt.2;rw[qL _ _ hb]at k1;cases k1;obtain rfl:=(hx.bx qL).uniq k3;exact⟨by simp[bk,same rfl k2],jR hr df hp fun _=>⟨⟨_,yJ⟩,qL _ _ hb,k2,k3⟩⟩
       ·cases hcm
      ·cases hcm
     ·simp only[Bool.and_eq_true]at hp;exact⟨by simp[bk,hp.1],jR (x:=x) hr df hp.2 fun hd=>by cases hd⟩
  |pY bO hh=>
   rename_i ns;subst hh;simp only[oq]at hp;refine⟨by simp[bk,iR],jR (x:=x) hr df hp fun hd=>?_⟩;simp only[Bool.or_eq_false_iff]at hd;exact quiet _ bO (by simpa using hd.2) hd.1
  |pZ bO=>
   simp only[oq]at hp;split at hp
   ·simp only[Bool.and_eq_true]at hp;exact⟨by simp[bk,hp.1],jR (x:=x) hr df hp.2 fun hd=>by cases hd⟩
   ·have q1:=quiet _ bO (by simp) rfl;exact⟨by simp[bk,same rfl q1.2.2.1],jR hr df hp fun _=>q1⟩
  |bad=>exact absurd rfl (nk _ List.mem_cons_self)
def AQ (ρ:Gh) (ob oa:Ob) (g g':ah):Prop:=∀m p v,qw ob m p v=true→qw oa m p v=true→∃b x,ρ m=some (.dJ b)∧ai g b p 1=some [x]∧ai g' b p 1=some [x]∧lS ρ v x
theorem AQ.bx {ρ ρ':Gh} {ob oa:Ob} {g g':ah} (H:AQ ρ ob oa g g') (qL:∀k b,ρ k=some (.dJ b)→ρ' k=some (.dJ b)):AQ ρ' ob oa g g':=by
 intro m p v h1 h2;obtain⟨b,x,k1,k2,k3,k4⟩:=H m p v h1 h2;exact⟨b,x,qL _ _ k1,k2,k3,k4.bx qL⟩
theorem AS {ρ:Gh} {o:Ob} {h:ah} {m p:Nat} {v:TV} (H:po ρ o h) (hc:qw o m p v=true):∃b x,ρ m=some (.dJ b)∧ai h b p 1=some [x]∧lS ρ v x:=by
 unfold qw at hc;split at hc
 ·rename_i cs yJ;split at hc
  ·rename_i w yV;obtain rfl:=Da hc;exact H m cs p _ yJ yV (by cases w<;>first|rfl |simp[EX]at hc)
  ·cases hc
 ·cases hc
theorem RT {ρ ρ':Gh} {ob oa:Ob} {g g':ah} (H:po ρ ob g) (H':po ρ' oa g') (qL:∀k b,ρ k=some (.dJ b)→ρ' k=some (.dJ b)):AQ ρ' ob oa g g':=by
 intro m p v h1 h2;obtain⟨b,x,k1,k2,k3⟩:=AS H h1;obtain⟨b',x',l1,l2,l3⟩:=AS H' h2;rw[qL _ _ k1]at l1;cases l1;obtain rfl:=(k3.bx qL).uniq l3;exact⟨b,x,qL _ _ k1,k2,l2,l3⟩
theorem j8 {g g':ah} {nm:List Nat} {ob oa:Ob}:∀{ls:List VN} {es:List eK} {ρ:Gh} {F:Nat→Prop} {o:Ob} {h:ah} {Am:List Nat} {j:Nat},wT oF ρ F o h ls es→(∀l∈ls,l.1≠ .bad)→kK bs i nm ob oa Am j ls=true→AQ ρ ob oa g g'→
 (∀m∈nm,m∉Am→(∃y,look o m=some y)∧∀b,C2 ρ m b→Fk g b∧g'.get b=g.get b∧(∀cs,g.rd b=some cs→g'.rd b=some cs)∧h.get b=g.get b∧(∀cs,g.rd b=some cs→h.rd b=some cs))→cI bs i (.dI g g') j es=true
 |_,_,ρ,F,_,h,Am,j,.nil _,_,_,_,_=>rfl
 |_,_,ρ,F,o,h,Am,j,.cons (ρ':=ρ') (o':=o') (h':=h') (l:=l) (e:=e) (ls:=ls) hl hw hs hF c7 Wh qL cH hr,nk,hp,hB,ht=>by
  have YQ:=hB.bx qL;have df:∀l∈ls,l.1≠ .bad:=fun l hl=>nk l (List.mem_cons_of_mem _ hl);have next:∀(ms aan:List Nat),Raw ρ o h ρ' o' h' ms→(∀m,m∉aan→m∉Am∧m∉ms)→∀m∈nm,m∉aan→(∃y,look o' m=some y)∧∀b,C2 ρ' m b→Fk g b∧g'.get b=g.get b∧(∀cs,g.rd b=some cs→g'.rd b=some cs)∧h'.get b=g.get b∧(∀cs,g.rd b=some cs→h'.rd b=some cs):=by
   intro ms aan bO kc m hm Wi;obtain⟨q1,q2⟩:=kc m Wi;obtain⟨⟨y,hy⟩,hb⟩:=ht m hm q1;obtain⟨⟨y',r1⟩,r2,r3⟩:=bO m y hy q2;refine⟨⟨y',r1⟩,fun b hab=>?_⟩;have aeR:C2 ρ m b:=by unfold C2 at hab ⊢;rw[←r2];exact hab
   obtain⟨a1,a2,a3,a4,a5⟩:=hb b aeR;obtain⟨b1,b2⟩:=r3 b aeR;exact⟨a1,a2,a3,b1.trans a4,fun cs s9=>b2 cs (a5 cs s9)⟩
  simp only[cI,Bool.and_eq_true];cases hl with
  |pure bO=>exact⟨rfl,j8 hr df hp YQ (next _ _ bO fun m hm=>⟨hm,by simp⟩)⟩
  |alloc bO=>exact⟨rfl,j8 hr df hp YQ (next _ _ bO fun m hm=>⟨hm,by simp⟩)⟩
  |Mk bO=>simp only[kK,Bool.and_eq_true]at hp;exact⟨by simp[bk,hp.1],j8 hr df hp.2 YQ (next _ _ bO fun m hm=>⟨hm,by simp⟩)⟩
  |mi bO hh hy hb hn=>
   rename_i q m y;simp only[kK,Bool.and_eq_true,Bool.or_eq_true]at hp;refine⟨?_,j8 hr df hp.2 YQ (next _ _ bO fun m hm=>⟨hm,by simp⟩)⟩;rcases hp.1 with ho|ho
   ·simp[bk,ho]
   ·simp only[Bool.not_eq_true']at ho;have hm:m∈nm:=by simpa using ho.1
    have Wi:m∉Am:=by simpa using ho.2
    obtain⟨a1,a2,a3,a4,a5⟩:=(ht m hm Wi).2 _ hb;have hng:mO q g:=by
     cases q with
     |cells a b o' n'=>
      obtain⟨l,r1,r2⟩:=hn;refine⟨l,?_,r2⟩;unfold ai at r1 ⊢;rcases a1 with⟨cs,a1⟩|⟨ob,a1,a1n⟩
      ·have:=a5 cs a1;simp only[RQ.dJ]at a1 this;rw[this]at r1;rw[a1];exact r1
      ·simp only[RQ.dJ]at a1 a4;exfalso;simp only[Option.bind_eq_some_iff]at r1;obtain⟨cs,r3,_⟩:=r1;obtain⟨f,t,th,r4⟩:=Ao r3;rw[a4,a1]at r4;exact a1n _ _ _ _ (Option.some.inj r4)
     |look r kd k z ok=>
      obtain⟨mm,r1,r2⟩:=hn;refine⟨mm,?_,r2⟩;simp only[RQ.dJ]at a4;unfold fj at r1 ⊢;rw[←a4];exact r1
     |len r=>
      obtain⟨mm,r1,r2⟩:=hn;refine⟨mm,?_,r2⟩;simp only[RQ.dJ]at a4;unfold fj at r1 ⊢;rw[←a4];exact r1
    have:=(jQ hng (.inr a2) a3).2;simp[bk,this]
  |vg bO hh hy zH hx aiZ=>
   rename_i m p0 b0 v0 x0 y;have hb:C2 ρ m (RQ.dJ (.cells false b0 p0 1)):=.inl zH;have hn:mO (.cells false b0 p0 1) h:=⟨_,aiZ,hx.Gt.1⟩;simp only[kK,Bool.and_eq_true,Bool.or_eq_true]at hp;refine⟨?_,j8 hr df hp.2 YQ (next _ _ bO fun m hm=>⟨hm,by simp⟩)⟩;rcases hp.1 with (ho|ho)|ho
   ·simp[bk,ho]
   ·simp only[Bool.not_eq_true']at ho;have hm:m∈nm:=by simpa using ho.1
    have Wi:m∉Am:=by simpa using ho.2
    obtain⟨a1,a2,a3,a4,a5⟩:=(ht m hm Wi).2 _ hb;have hng:mO (.cells false b0 p0 1) g:=by
     obtain⟨l,r1,r2⟩:=hn;refine⟨l,?_,r2⟩;unfold ai at r1 ⊢;rcases a1 with⟨cs,a1⟩|⟨ob,a1,a1n⟩
     ·have:=a5 cs a1;simp only[RQ.dJ]at a1 this;rw[this]at r1;rw[a1];exact r1
     ·simp only[RQ.dJ]at a1 a4;exfalso;simp only[Option.bind_eq_some_iff]at r1;obtain⟨cs,r3,_⟩:=r1;obtain⟨f,t,th,r4⟩:=Ao r3;rw[a4,a1]at r4;exact a1n _ _ _ _ (Option.some.inj r4)
    have:=(jQ hng (.inr a2) a3).2;simp[bk,this]
   ·obtain⟨b1,x1,k1,k2,k3,k4⟩:=hB _ _ _ ho.1 ho.2;rw[zH]at k1;cases k1;obtain rfl:=hx.uniq k4;have:gl g g' (.cells false b0 p0 1)=true:=by
     unfold gl;rw[Bool.or_eq_true];left;unfold my;rw[cu];split
     ·simp only[k2,k3,hx.Gt.1]
     ·rfl
    simp[bk,this]
  |dI bO=>
   simp only[kK,Bool.and_eq_true]at hp;exact⟨by simp[bk,hp.1],j8 hr df hp.2 YQ (next _ _ bO fun m hm=>by simp only[List.mem_append,not_or]at hm;exact hm)⟩
  |pY bO hh=>
   simp only[kK,Bool.and_eq_true]at hp;exact⟨by simp[bk,hp.1],j8 hr df hp.2 YQ (next _ _ bO fun m hm=>by simp only[List.mem_append,not_or]at hm;exact hm)⟩
  |pZ bO=>
   simp only[kK,Bool.and_eq_true]at hp;exact⟨by simp[bk,hp.1],j8 hr df hp.2 YQ (next _ _ bO fun m hm=>⟨hm,by simp⟩)⟩
  |bad=>exact absurd rfl (nk _ List.mem_cons_self)
theorem pq {g:ah}:∀{ls:List VN} {es:List eK} {ρ:Gh} {F:Nat→Prop} {o:Ob} {h:ah} {j:Nat},wT oF ρ F o h ls es→(∀l∈ls,l.1≠ .bad)→vj bs i j ls=true→cI bs i (.dI g g) j es=true
 |_,_,ρ,F,_,h,j,.nil _,_,_=>rfl
 |_,_,ρ,F,o,h,j,.cons (ls:=ls) hl hw hs hF c7 Wh qL cH hr,nk,hp=>by
  have df:∀l∈ls,l.1≠ .bad:=fun l hl=>nk l (List.mem_cons_of_mem _ hl);simp only[cI,Bool.and_eq_true];cases hl with
  |pure bO=>exact⟨rfl,pq hr df hp⟩
  |alloc bO=>exact⟨rfl,pq hr df hp⟩
  |Mk bO=>exact⟨by simp[bk,iR],pq hr df hp⟩
  |mi bO=>exact⟨by simp[bk,iR],pq hr df hp⟩
  |vg bO=>exact⟨by simp[bk,iR],pq hr df hp⟩
  |dI bO=>simp only[vj,Bool.and_eq_true]at hp;exact⟨by simp[bk,hp.1],pq hr df hp.2⟩
  |pY bO=>simp only[vj,Bool.and_eq_true]at hp;exact⟨by simp[bk,hp.1],pq hr df hp.2⟩
  |pZ bO=>simp only[vj,Bool.and_eq_true]at hp;exact⟨by simp[bk,hp.1],pq hr df hp.2⟩
  |bad=>exact absurd rfl (nk _ List.mem_cons_self)
theorem aao {h h':ah} (W:Wf h) (same:∀x,x<h.size→h'.get x=h.get x) {b:Nat} {cs:List Value} (hr:h.rd b=some cs):h'.rd b=some cs:=by
 obtain⟨r,h1,h2,h3⟩:=rd_some hr;obtain⟨f1,t1,zJ,hg⟩:=ef h3;obtain⟨cr,jI⟩:=bS h1;obtain⟨wi,q1,q2,od⟩:=eA h1;rw[hg]at od;cases od;have a1:=same b (W.lt hg);have a2:=same r.1 (W.lt jI);exact eu (bR (a1.trans hg) (a2.trans jI)) h2 (az (a1.trans hg))
theorem Wj {h h':ah} (W:Wf h) (same:∀x,x<h.size→h'.get x=h.get x) {b:Nat} (hb:b<h.size) {cs:List Value} (hr:h'.rd b=some cs):h.rd b=some cs:=by
 obtain⟨r,h1,h2,h3⟩:=rd_some hr;obtain⟨f1,t1,zJ,hg⟩:=ef h3;obtain⟨cr,jI⟩:=bS h1;obtain⟨wi,q1,q2,od⟩:=eA h1;rw[hg]at od;cases od;have a1:=(same b hb).symm.trans hg;have hle:=W.le _ _ _ _ _ a1;have a2:=(same r.1 om).symm.trans jI;exact eu (bR a1 a2) h2 (az a1)
theorem OE {g g' h:ah} (W:Wf g) (hG:∀b,b<g.size→g'.get b=g.get b) (hq:∀b,b<g.size→h.get b=g.get b) {q:RQ} (hn:mO q h):gl g g' q=true:=by
 by_cases hb:q.dJ<g.size
 ·have k1:=jQ (h:=h) (h':=g) hn (.inr (hq _ hb).symm) fun cs hr=>Wj W hq hb hr;exact(jQ k1.1 (.inr (hG _ hb)) fun cs hr=>aao W hG hr).2
 ·unfold gl my;have e:Nat.blt q.dJ g.size=false:=by
   cases hx:Nat.blt q.dJ g.size with
   |false=>rfl
   |true=>exact absurd (bc.1 hx) hb
  rw[e];rfl
theorem pr {g g':ah} (W:Wf g) (hG:∀b,b<g.size→g'.get b=g.get b):∀{ls:List VN} {es:List eK} {ρ:Gh} {F:Nat→Prop} {o:Ob} {h:ah} {q:Bool} {j:Nat},wT oF ρ F o h ls es→(∀l∈ls,l.1≠ .bad)→kg bs i q j ls=true→
 (q=true→g.size≤h.size∧∀b,b<g.size→h.get b=g.get b)→cI bs i (.dI g g') j es=true
 |_,_,ρ,F,_,h,q,j,.nil _,_,_,_=>rfl
 |_,_,ρ,F,o,h,q,j,.cons (ls:=ls) hl hw hs hF c7 Wh qL cH hr,nk,hp,hq=>by
  have df:∀l∈ls,l.1≠ .bad:=fun l hl=>nk l (List.mem_cons_of_mem _ hl);simp only[cI,Bool.and_eq_true];have rdc:∀{x:RQ},(q||ordered bs i j)=true→mO x h→bk bs i (.dI g g') j (.rd x h)=true:=fun {x} ho hn=>by
   rcases Bool.or_eq_true _ _▸ho with e|e
   ·simp[bk,OE W hG (hq e).2 hn]
   ·simp[bk,e]
  cases hl with
  |pure bO hh=>subst hh;exact⟨rfl,pr W hG hr df hp hq⟩
  |alloc bO=>exact⟨rfl,pr W hG hr df (q:=false) hp fun e=>by cases e⟩
  |Mk bO hh hFq hc hn=>subst hh;simp only[kg,Bool.and_eq_true]at hp;exact⟨rdc hp.1 hn,pr W hG hr df hp.2 hq⟩
  |mi bO hh hy hb hn=>subst hh;simp only[kg,Bool.and_eq_true]at hp;exact⟨rdc hp.1 hn,pr W hG hr df hp.2 hq⟩
  |vg bO hh hy hb hx gW=>subst hh;simp only[kg,Bool.and_eq_true]at hp;exact⟨rdc hp.1 ⟨_,gW,hx.Gt.1⟩,pr W hG hr df hp.2 hq⟩
  |dI bO=>simp only[kg,Bool.and_eq_true]at hp;exact⟨by simp[bk,hp.1],pr W hG hr df (q:=false) hp.2 fun e=>by cases e⟩
  |pY bO hh=>subst hh;simp only[kg,Bool.and_eq_true]at hp;exact⟨by simp[bk,hp.1],pr W hG hr df hp.2 hq⟩
  |pZ bO hG2=>
   simp only[kg,Bool.and_eq_true]at hp;exact⟨by simp[bk,hp.1],pr W hG hr df hp.2 fun e=>⟨Nat.le_trans (hq e).1 hs,fun b hb=>(hG2 b (Nat.lt_of_lt_of_le hb (hq e).1)).trans ((hq e).2 b hb)⟩⟩
  |bad=>exact absurd rfl (nk _ List.mem_cons_self)
theorem Ic:∀{es:List eK} {j:Nat},cI bs i .pure j es=true
 |[],_=>rfl
 |e::es,j=>by simp only[cI,Bool.and_eq_true];exact⟨by cases e<;>rfl,Ic⟩
theorem Db {g g':ah} (W:Wf g):∀{es:List eK} {j:Nat},cI bs i (.alloc g g') j es=true
 |[],_=>rfl
 |e::es,j=>by
  simp only[cI,Bool.and_eq_true];exact⟨by cases e<;>first|rfl |exact zk W _,Db W⟩
theorem gT:∀{ls:List VN} {es:List eK} {ρ:Gh} {F:Nat→Prop} {o:Ob} {h:ah} {j:Nat},wT oF ρ F o h ls es→gm bs oF j ls=true→mz bs j es=true
 |_,_,ρ,F,_,h,j,.nil _,_=>rfl
 |_,_,ρ,F,o,h,j,.cons (h':=h') (l:=l) (e:=e) (ls:=ls) hl hw hs hF c7 Wh qL cH hr,hd=>by
  have nk:=vE hd;have df:∀l∈ls,l.1≠ .bad:=fun l hl=>nk l (List.mem_cons_of_mem _ hl);simp only[mz,Bool.and_eq_true];cases hl with
  |pure=>exact⟨⟨rfl,Ic⟩,gT hr hd⟩
  |alloc=>exact⟨⟨rfl,Db hw⟩,gT hr hd⟩
  |Mk bO hh hFq hc hn=>subst hh;exact⟨⟨by simp only[ng,bc];exact AP hw hn,YP hc hr df (hF _ hFq) hn⟩,gT hr hd⟩
  |mi bO hh hy hb hn=>
   subst hh;simp only[gm,Bool.and_eq_true]at hd;refine⟨⟨by simp only[ng,bc];exact AP hw hn,qN hr df hd.1 fun _=>?_⟩,gT hr hd.2⟩;obtain⟨⟨y',r1⟩,r2,_⟩:=bO _ _ hy (by simp);exact⟨⟨y',r1⟩,by unfold C2 at hb ⊢;rw[r2];exact hb,hn⟩
  |vg bO hh hy hb hx gW=>
   rename_i nn pp bb vv xx yy;subst hh;simp only[gm,Bool.and_eq_true]at hd;have hn:mO (.cells false _ _ 1) _:=⟨_,gW,hx.Gt.1⟩;refine⟨⟨by simp only[ng,bc];exact AP hw hn,jR (x:=xx) hr df hd.1 fun _=>?_⟩,gT hr hd.2⟩;obtain⟨⟨y',r1⟩,r2,_⟩:=bO _ _ hy (by simp);exact⟨⟨y',r1⟩,qL _ _ hb,gW,hx.bx qL⟩
  |dI bO=>
   simp only[gm,Bool.and_eq_true]at hd;refine⟨⟨by simp only[ng,aL];exact hs,j8 hr df hd.1 (by rw[hr.next.1];exact RT cH hr.next.2 qL) fun m hm Wi=>?_⟩,gT hr hd.2⟩;obtain⟨y,hy⟩:=AO hm;obtain⟨⟨y',r1⟩,r2,r3⟩:=bO m y hy Wi;refine⟨⟨y',r1⟩,fun b hb=>?_⟩;have cA:C2 ρ m b:=by unfold C2 at hb ⊢;rw[←r2];exact hb
   obtain⟨b1,b2⟩:=r3 b cA;exact⟨Wh m y b hy cA,b1,b2,b1,b2⟩
  |pY bO hh=>
   subst hh;simp only[gm,Bool.and_eq_true]at hd;exact⟨⟨by simp only[ng,aL];exact hs,pq hr df hd.1⟩,gT hr hd.2⟩
  |pZ bO hG=>
   simp only[gm,Bool.and_eq_true,Bool.or_eq_true]at hd;refine⟨⟨by simp only[ng,aL];exact hs,?_⟩,gT hr hd.2⟩;rcases hd.1 with Jy|Jy
   ·exact pr hw hG hr df Jy fun _=>⟨hs,hG⟩
   ·refine j8 hr df Jy (by rw[hr.next.1];exact RT cH hr.next.2 qL) fun m hm Wi=>?_;obtain⟨y,hy⟩:=AO hm;obtain⟨⟨y',r1⟩,r2,r3⟩:=bO m y hy Wi;refine⟨⟨y',r1⟩,fun b hb=>?_⟩;have cA:C2 ρ m b:=by unfold C2 at hb ⊢;rw[←r2];exact hb
    obtain⟨b1,b2⟩:=r3 b cA;exact⟨Wh m y b hy cA,b1,b2,b1,b2⟩
  |bad=>exact absurd rfl (nk _ List.mem_cons_self)
end
section
variable {T E:Env} {X:Cx} {ρ:Gh} {F:Nat→Prop} {o:Ob} {c n:Nat} {af:AF} {f:Fr} {h:ah} {ops:List Oper}
theorem oy (p:Nat×TV) (f:Fr) (t:Nat):pe (p::f) t=if p.1=t then p.2 else pe f t:=by
 show(match Nat.beq p.1 t with|true=>p.2|false=>pe f t)=_;rw[Hf];by_cases h:p.1=t<;>simp[h]
theorem zl {d:Option Tmp} {v:TV} {x:Value} {K:Fr→Prop} (hw:vk d n v f K) (S:bH c ρ F h f af) (hn:af.n=n) (hv:VR c ρ F h v x):∃f',K f'∧bH c ρ F h f' (af.put d x)∧(af.put d x).n=n:=by
 unfold vk at hw;cases d with
 |none=>exact⟨f,hw,S,hn⟩
 |some t=>
  simp only at hw;split at hw
  ·rename_i ht;rw[bc]at ht;refine⟨_,hw,fun u=>?_,by rw[AF.L2];exact hn⟩;rw[oy];show VR c ρ F h _ ((af.set t x).get u);rw[AF.iB];by_cases e:t=u
   ·subst e;rw[if_pos rfl,if_pos ⟨rfl,om⟩];exact hv
   ·rw[if_neg e,if_neg (fun e2=>e e2.1.symm)];exact S u
  ·exact hw.elim
theorem Dc {p:Oper} {K1 K2:Prop} (hw:qx ops p f K1 K2) (S:bH c ρ F h f af):(wanted ops p af=true∧K1)∨(wanted ops p af=false∧K2):=by
 unfold qx at hw;unfold wanted;split at hw
 ·rename_i hg;rw[hg];exact .inl ⟨rfl,hw⟩
 ·rename_i j want hg;rw[hg];simp only
  split at hw
  ·exact hw.elim
  ·rename_i q hq;rw[hq];simp only[Option.bind_some];split at hw
   ·exact hw.elim
   ·rename_i t ht;rw[ht];simp only
    split at hw
    ·rename_i b hb;have:=S t;rw[hb]at this;rw[this.dV.1];simp only
     cases b<;>cases want<;>simp only at hw<;>simp[hw]
    ·rename_i hb;have:=S t;rw[hb]at this;obtain⟨a,ha,hl⟩:=this.vm;rw[ha];exact .inr ⟨rfl,hw⟩
    ·exact hw.elim
theorem zm (L:cm T E) (NX:wG E X) {K:RK}:∀(rest:List Oper) {ρ:Gh} {F:Nat→Prop} {o:Ob} {c:Nat} {f:Fr} {af:AF} {h:ah},An T (VC E) n ops rest f o c K→Mem X ρ F o c h→bH c ρ F h f af→af.n=n→
 ∃n0 mu h' f' o' c' ρ' F',(∀m,n0≤m→kN E X.base (fW E X.base m) (dK X.base (aN E X.base m)) ops rest af h=some (mu,h'))∧K f' o' c'∧Nx X ρ F o c h ρ' F' o' c' h'∧bH c' ρ' F' h' f' mu∧mu.n=n
 |[],ρ,F,o,c,f,af,h,hw,H,S,hn=>⟨0,af,h,f,o,c,ρ,F,fun m _=>rfl,hw,.refl H,S,hn⟩
 |p::rest,ρ,F,o,c,f,af,h,hw,H,S,hn=>by
  simp only[An]at hw;rcases Dc hw S with⟨td,hw⟩|⟨td,hw⟩
  ·obtain⟨n1,r,v,o1,c1,iE,F1,lg,h1,h2,N,hv,_⟩:=RP L NX H S hw;have S1:bH c1 iE F1 r.h f af:=fun t=>N.bx _ _ (S t);obtain⟨f1,h3,S2,V3⟩:=zl h2 S1 hn hv;obtain⟨n2,mu,h',f',o',c',ρ',F',k1,k2,N2,k3,k4⟩:=zm L NX rest h3 N.mem S2 V3;refine⟨max n1 n2,mu,h',f',o',c',ρ',F',fun m hm=>?_,k2,⟨N2.mem,fun t x hx=>N2.bx t x (N.bx t x hx),Nat.le_trans N.size N2.size,fun b hb=>N2.FF b (N.FF b hb),fun b cs hb hr=>N2.c7 b cs (N.FF b hb) (N.c7 b cs hb hr)⟩,k3,k4⟩;unfold kN;rw[td];simp only
   rw[h1 m om];simp only[Option.bind_some];exact k1 m om
  ·obtain⟨f1,h3,S2,V3⟩:=zl hw S hn (show VR _ _ _ _ (.cB []) undef from .cB rfl fun i t v h=>by simp at h);obtain⟨n2,mu,h',f',o',c',ρ',F',k1,k2,N2,k3,k4⟩:=zm L NX rest h3 H S2 V3;refine⟨n2,mu,h',f',o',c',ρ',F',fun m hm=>?_,k2,N2,k3,k4⟩;unfold kN;rw[td];exact k1 m hm
theorem AT (L:cm T E) (NX:wG E X) {K:List VN→RK}:∀(rest:List Oper) {ρ:Gh} {F:Nat→Prop} {o:Ob} {c:Nat} {f:Fr} {af:AF} {h:ah} {lg:List VN},vl T (VC E) n ops rest f o c lg K→Mem X ρ F o c h→bH c ρ F h f af→af.n=n→
 ∃n0 mu h' es f' o' c' ρ' F' ls,(∀m,n0≤m→kE E X.base (fW E X.base m) (dK X.base (aN E X.base m)) ops rest af h=some (mu,h',es))∧K (lg++ls) f' o' c'∧Nx X ρ F o c h ρ' F' o' c' h'∧bH c' ρ' F' h' f' mu∧mu.n=n∧
  wT o' ρ F o h ls es
 |[],ρ,F,o,c,f,af,h,lg,hw,H,S,hn=>⟨0,af,h,[],f,o,c,ρ,F,[],fun m _=>rfl,by simpa[vl]using hw,.refl H,S,hn,.nil H.Fl⟩
 |p::rest,ρ,F,o,c,f,af,h,lg,hw,H,S,hn=>by
  simp only[vl]at hw;rcases Dc hw S with⟨td,hw⟩|⟨td,hw⟩
  ·obtain⟨n1,r,v,o1,c1,iE,F1,l,h1,h2,N,hv,mr⟩:=RP L NX H S hw;have S1:bH c1 iE F1 r.h f af:=fun t=>N.bx _ _ (S t);obtain⟨f1,h3,S2,V3⟩:=zl h2 S1 hn hv;obtain⟨n2,mu,h',es,f',o',c',ρ',F',ls,k1,k2,N2,k3,k4,k5⟩:=AT L NX rest h3 N.mem S2 V3
   refine⟨max n1 n2,mu,h',r.log::es,f',o',c',ρ',F',(l,o)::ls,fun m hm=>?_,by simpa using k2,⟨N2.mem,fun t x hx=>N2.bx t x (N.bx t x hx),Nat.le_trans N.size N2.size,fun b hb=>N2.FF b (N.FF b hb),fun b cs hb hr=>N2.c7 b cs (N.FF b hb) (N.c7 b cs hb hr)⟩,k3,k4,
    .cons mr H.wf N.size N.FF N.c7 (fun m y b hy hb=>H.live hy hb) (fun k b hk=>by cases N.bx _ _ (VR.mp (c:=c) (F:=F) (h:=h) hk)with|mp h'=>exact h') H.Fl k5⟩
   unfold kE;rw[td];simp only
   rw[h1 m om];simp only[Option.bind_some];rw[k1 m om];rfl
  ·obtain⟨f1,h3,S2,V3⟩:=zl hw S hn (show VR _ _ _ _ (.cB []) undef from .cB rfl fun i t v h=>by simp at h);obtain⟨n2,mu,h',es,f',o',c',ρ',F',ls,k1,k2,N2,k3,k4,k5⟩:=AT L NX rest h3 H S2 V3;refine⟨n2,mu,h',.pure::es,f',o',c',ρ',F',(.pure,o)::ls,fun m hm=>?_,by simpa using k2,N2,k3,k4,.cons (.pure (.refl _) rfl) H.wf (Nat.le_refl _) (fun _ h=>h) (fun _ _ _ hr=>hr) (fun m y b hy hb=>H.live hy hb) (fun _ _ h=>h) H.Fl k5⟩;unfold kE;rw[td];simp only
   rw[k1 m hm];rfl
end
section
variable {T E:Env} {X:Cx} {n:Nat}
theorem RU {ids:List (Option Nat)} {o:Ob} {f f1:Fr} {t:Nat} (L:LeF ids o f f1):leV ids o (pe f t) (pe f1 t)∨pe f1 t= .j:=by
 induction L with
 |nil=>exact .inr rfl
 |cons h _ ih=>
  rw[oy];split
  ·rename_i e;subst e;exact .inl h
  ·exact ih
theorem adapt {ρ:Gh} {F:Nat→Prop} {o:Ob} {c:Nat} {f:Fr} {af:AF} {h:ah} (H:Mem X ρ F o c h) (S:bH c ρ F h f af) {sh:List Nat} {ids:List (Option Nat)} {U:List Nat} {f1:Fr} {o1:Ob} (hi:(iO c ids&&pQ X.c0 0 ids&&lO ids U)=true)
 (hf:LeF ids (ck sh o) f f1) (ho:Kd ids (ck sh o) U o1):∃ρ' F',Mem X ρ' F' o1 ids.length h∧bH ids.length ρ' F' h f1 af:=by
 simp only[Bool.and_eq_true]at hi;obtain⟨F1,S1⟩:=iQ H sh;refine⟨_,F1,S1.mem.le hi.1.1 hi.1.2 hi.2 ho,fun t=>?_⟩;rcases RU (t:=t) hf with h1|h1
 ·exact pg S1.mem _ _ _ h1 (S1.bx _ _ (S t))
 ·rw[h1];exact .j _
def gU (E:Env) (base:Nat) (code:Code) (af:AF) (h:ah) (r:Ex×AF×ah):Prop:=∃n0,∀m,n0≤m→aN E base m code af h=some r
def Comes (E:Env) (X:Cx) (n:Nat) (code:Code) (af:AF) (h:ah) (Q:CK):Prop:=
 ∃ex mu h' f' o' c' ρ' F',gU E X.base code af h (ex,mu,h')∧Q ex f' o' c'∧Mem X ρ' F' o' c' h'∧bH c' ρ' F' h' f' mu∧mu.n=n
theorem gU.Ci {a b:Code} {af nK:AF} {h h1:ah} {r:Ex×AF×ah} {base:Nat} (A:gU E base a af h (.normal,nK,h1)) (B:gU E base b nK h1 r):gU E base (.seq a b) af h r:=by
 obtain⟨n1,A⟩:=A;obtain⟨n2,B⟩:=B;refine⟨max n1 n2+1,fun m hm=>?_⟩;obtain⟨k,rfl⟩:∃k,m=k+1:=⟨m - 1,om⟩;simp only[aN];rw[A k om];exact B k om
theorem gU.aap {a b:Code} {af nK:AF} {h h1:ah} {ex:Ex} {base:Nat} (A:gU E base a af h (ex,nK,h1)) (hx:ex≠ .normal):gU E base (.seq a b) af h (ex,nK,h1):=by
 obtain⟨n1,A⟩:=A;refine⟨n1+1,fun m hm=>?_⟩;obtain⟨k,rfl⟩:∃k,m=k+1:=⟨m - 1,om⟩;simp only[aN];rw[A k om];cases ex<;>first|rfl |exact absurd rfl hx
theorem gU.RV {b:Code} {af nK:AF} {h h1:ah} {r:Ex×AF×ah} {base:Nat} (A:gU E base b af h (.normal,nK,h1)) (B:gU E base (.loop b) nK h1 r):gU E base (.loop b) af h r:=by
 obtain⟨n1,A⟩:=A;obtain⟨n2,B⟩:=B;refine⟨max n1 n2+1,fun m hm=>?_⟩;obtain⟨k,rfl⟩:∃k,m=k+1:=⟨m - 1,om⟩;simp only[aN];rw[A k om];exact B k om
theorem gU.Ie {b:Code} {af nK:AF} {h h1:ah} {ex:Ex} {base:Nat} (A:gU E base b af h (ex,nK,h1)) (hx:ex≠ .normal):gU E base (.loop b) af h (ex,nK,h1):=by
 obtain⟨n1,A⟩:=A;refine⟨n1+1,fun m hm=>?_⟩;obtain⟨k,rfl⟩:∃k,m=k+1:=⟨m - 1,om⟩;simp only[aN];rw[A k om];cases ex<;>first|rfl |exact absurd rfl hx
theorem gU.one {c:Code} {af:AF} {h:ah} {r:Ex×AF×ah} {base:Nat} (hx:∀k,aN E base (k+1) c af h=some r):gU E base c af h r:=
 ⟨1,fun m hm=>by obtain⟨k,rfl⟩:∃k,m=k+1:=⟨m - 1,om⟩;exact hx k⟩
theorem sk {ρ:Gh} {F:Nat→Prop} {o:Ob} {c:Nat} {f:Fr} {af:AF} {h:ah} {K:RK} (H:Mem X ρ F o c h) (S:bH c ρ F h f af) (ht:jM X.c0 f o c K):∃f1 o1 c1 ρ' F',K f1 o1 c1∧Mem X ρ' F' o1 c1 h∧bH c1 ρ' F' h f1 af:=by
 obtain⟨sh,ids,U,f1,o1,⟨hf,ho,hi⟩,hK⟩:=ht;obtain⟨ρ',F',H',S'⟩:=adapt H S hi hf ho;exact⟨f1,o1,_,ρ',F',hK,H',S'⟩
theorem Ig {c9:List Nat} (L:cm T E) (NX:wG E X):∀(code:Code) {ρ:Gh} {F:Nat→Prop} {o:Ob} {c:Nat} {f:Fr} {af:AF} {h:ah} {Q:CK},wp T (VC E) n X.c0 c9 code f o c Q→Mem X ρ F o c h→bH c ρ F h f af→af.n=n→Comes E X n code af h Q:=by
 intro code
 induction code with
 |skip=>intro ρ F o c f af h Q hw H S hn;exact⟨.normal,af,h,f,o,c,ρ,F,.one fun k=>rfl,hw,H,S,hn⟩
 |exit id=>intro ρ F o c f af h Q hw H S hn;exact⟨.exit id,af,h,f,o,c,ρ,F,.one fun k=>rfl,hw,H,S,hn⟩
 |ret=>intro ρ F o c f af h Q hw H S hn;exact⟨.ret,af,h,f,o,c,ρ,F,.one fun k=>rfl,hw,H,S,hn⟩
 |region id ops draw=>
  intro ρ F o c f af h Q hw H S hn;simp only[wp]at hw;cases draw with
  |false=>
   obtain⟨n0,mu,h',f',o',c',ρ',F',k1,k2,N,k3,k4⟩:=zm L NX ops.toList hw H S hn;refine⟨.normal,mu,h',f',o',c',ρ',F',⟨n0+1,fun m hm=>?_⟩,k2,N.mem,k3,k4⟩;obtain⟨k,rfl⟩:∃k,m=k+1:=⟨m - 1,om⟩;simp only[aN,kO];have:=k1 k om;unfold fW at this;rw[this];rfl
  |true=>
   simp only at hw;split at hw
   ·rename_i bz;obtain⟨n0,mu,h',es,f',o',c',ρ',F',ls,k1,k2,N,k3,k4,k5⟩:=AT L NX ops.toList hw H S hn;simp only[List.nil_append]at k2;split at k2
    ·rename_i hd;refine⟨.normal,mu,h',f',o',c',ρ',F',⟨n0+1,fun m hm=>?_⟩,k2,N.mem,k3,k4⟩;obtain⟨k,rfl⟩:∃k,m=k+1:=⟨m - 1,om⟩;simp only[aN,kO];have:=k1 k om;unfold fW at this;rw[hn,bz,this];simp only[bL,Option.bind_some];rw[gT k5 hd]
    ·exact k2.elim
   ·exact hw.elim
 |seq a b iha ihb=>
  intro ρ F o c f af h Q hw H S hn;simp only[wp]at hw;obtain⟨ex,nK,h1,f1,o1,c1,iE,F1,r1,q1,H1,S1,n1⟩:=iha hw H S hn;cases ex with
  |normal=>
   obtain⟨YR,Dd,h2,f2,o2,c2,MI,F2,r2,q2,H2,S2,n2⟩:=ihb q1 H1 S1 n1;exact⟨YR,Dd,h2,f2,o2,c2,MI,F2,r1.Ci r2,q2,H2,S2,n2⟩
  |exit id=>exact⟨.exit id,nK,h1,f1,o1,c1,iE,F1,r1.aap (by simp),q1,H1,S1,n1⟩
  |ret=>exact⟨.ret,nK,h1,f1,o1,c1,iE,F1,r1.aap (by simp),q1,H1,S1,n1⟩
 |cond q t e iht ihe=>
  intro ρ F o c f af h Q hw H S hn;simp only[wp]at hw;split at hw
  ·exact hw.elim
  ·rename_i mR;obtain⟨v,h1,h2⟩:=se (E:=E) L ((NX.now H).sub L) S mR;split at hw
   ·rename_i b hb;rw[hb]at h2;have:=h2.dV.1;subst this;have key:∀{x:Code} {r:Ex×AF×ah},gU E X.base x af h r→(∀k,aN E X.base (k+1) (.cond q t e) af h=aN E X.base k x af h)→gU E X.base (.cond q t e) af h r:=by
     rintro x r ⟨n0,hr⟩ hk;refine⟨n0+1,fun m hm=>?_⟩;obtain⟨k,rfl⟩:∃k,m=k+1:=⟨m - 1,om⟩;rw[hk];exact hr k om
    split at hw
    ·obtain⟨ex,nK,BO,f1,o1,c1,iE,F1,r1,q1,H1,S1,n1⟩:=iht hw H S hn;exact⟨ex,nK,BO,f1,o1,c1,iE,F1,key r1 fun k=>by simp only[aN,h1,Option.bind_some,Gs],q1,H1,S1,n1⟩
    ·obtain⟨ex,nK,BO,f1,o1,c1,iE,F1,r1,q1,H1,S1,n1⟩:=ihe hw H S hn;exact⟨ex,nK,BO,f1,o1,c1,iE,F1,key r1 fun k=>by simp only[aN,h1,Option.bind_some,Gs],q1,H1,S1,n1⟩
   ·exact hw.elim
 |block id b ih=>
  intro ρ F o c f af h Q hw H S hn;simp only[wp]at hw
  have key:∀{n0:Nat} {YR:Ex} {nK:AF} {h1:ah},(∀k,n0≤k→aN E X.base (k+1) (.block id b) af h=some (YR,nK,h1))→gU E X.base (.block id b) af h (YR,nK,h1):=fun {n0} {YR} {nK} {h1} hk=>
   ⟨n0+1,fun m hm=>by obtain⟨k,rfl⟩:∃k,m=k+1:=⟨m - 1,om⟩;exact hk k om⟩
  split at hw
  ·obtain⟨ex,nK,h1,f1,o1,c1,iE,F1,⟨n0,r1⟩,q1,H1,S1,n1⟩:=ih hw H S hn;cases ex with
   |normal=>exact⟨.normal,nK,h1,f1,o1,c1,iE,F1,key (n0:=n0) fun k hk=>by simp only[aN,r1 k hk],q1,H1,S1,n1⟩
   |ret=>exact⟨.ret,nK,h1,f1,o1,c1,iE,F1,key (n0:=n0) fun k hk=>by simp only[aN,r1 k hk],q1,H1,S1,n1⟩
   |exit nU=>
    simp only at q1;split at q1
    ·rename_i hid;exact⟨.normal,nK,h1,f1,o1,c1,iE,F1,key (n0:=n0) fun k hk=>by simp only[aN,r1 k hk,hid,cond_true],q1,H1,S1,n1⟩
    ·rename_i hid;exact⟨.exit nU,nK,h1,f1,o1,c1,iE,F1,key (n0:=n0) fun k hk=>by simp only[aN,r1 k hk,hid,cond_false],q1,H1,S1,n1⟩
  ·obtain⟨Qm,hw,RW⟩:=hw;obtain⟨ex,nK,h1,f1,o1,c1,iE,F1,⟨n0,r1⟩,q1,H1,S1,n1⟩:=ih hw H S hn;cases ex with
   |normal=>
    obtain⟨f2,o2,c2,MI,F2,hM,H2,S2⟩:=sk H1 S1 q1;exact⟨.normal,nK,h1,f2,o2,c2,MI,F2,key (n0:=n0) fun k hk=>by simp only[aN,r1 k hk],RW _ _ _ hM,H2,S2,n1⟩
   |ret=>exact⟨.ret,nK,h1,f1,o1,c1,iE,F1,key (n0:=n0) fun k hk=>by simp only[aN,r1 k hk],q1,H1,S1,n1⟩
   |exit nU=>
    simp only at q1;split at q1
    ·rename_i hid;obtain⟨f2,o2,c2,MI,F2,hM,H2,S2⟩:=sk H1 S1 q1;exact⟨.normal,nK,h1,f2,o2,c2,MI,F2,key (n0:=n0) fun k hk=>by simp only[aN,r1 k hk,hid,cond_true],RW _ _ _ hM,H2,S2,n1⟩
    ·rename_i hid;exact⟨.exit nU,nK,h1,f1,o1,c1,iE,F1,key (n0:=n0) fun k hk=>by simp only[aN,r1 k hk,hid,cond_false],q1,H1,S1,n1⟩
 |loop b ih=>
  intro ρ F o c f af h Q hw H S hn;simp only[wp]at hw;split at hw;rotate_left
  ·have main:∀(k:Nat) {ρ:Gh} {F:Nat→Prop} {o:Ob} {c:Nat} {f:Fr} {af:AF} {h:ah},CV (fun f o c Q=>wp T (VC E) n X.c0 c9 b f o c Q) k f o c Q→Mem X ρ F o c h→bH c ρ F h f af→af.n=n→Comes E X n (.loop b) af h Q:=by
    intro k
    induction k with
    |zero=>intro ρ F o c f af h hw;exact hw.elim
    |succ k ihk=>
     intro ρ F o c f af h hw H S hn;simp only[CV]at hw;obtain⟨ex,nK,h1,f1,o1,c1,iE,F1,r1,q1,H1,S1,n1⟩:=ih hw H S hn;cases ex with
     |normal=>
      obtain⟨ex,af3,h3,f3,o3,c3,ρ3,F3,r3,q3,H3,S3,n3⟩:=ihk q1 H1 S1 n1;exact⟨ex,af3,h3,f3,o3,c3,ρ3,F3,r1.RV r3,q3,H3,S3,n3⟩
     |exit id=>exact⟨.exit id,nK,h1,f1,o1,c1,iE,F1,r1.Ie (by simp),q1,H1,S1,n1⟩
     |ret=>exact⟨.ret,nK,h1,f1,o1,c1,iE,F1,r1.Ie (by simp),q1,H1,S1,n1⟩
   exact main 64 hw H S hn
  obtain⟨Inv,⟨k0,hI⟩,aeW⟩:=hw;obtain⟨f1,o1,c1,iE,F1,hI1,H1,S1⟩:=sk H S hI;have main:∀(k:Nat) {ρ:Gh} {F:Nat→Prop} {o:Ob} {c:Nat} {f:Fr} {af:AF} {h:ah},Inv k f o c→Mem X ρ F o c h→bH c ρ F h f af→af.n=n→Comes E X n (.loop b) af h Q:=by
   intro k
   induction k using Nat.strongRecOn with
   |ind k ihk=>
    intro ρ F o c f af h hI H S hn;obtain⟨ex,nK,h1,f1,o1,c1,iE,F1,r1,q1,H1,S1,n1⟩:=ih (aeW k f o c hI) H S hn;cases ex with
    |normal=>
     obtain⟨k',ht,bw⟩:=q1;obtain⟨f2,o2,c2,MI,F2,hI2,H2,S2⟩:=sk H1 S1 ht;obtain⟨ex,af3,h3,f3,o3,c3,ρ3,F3,r3,q3,H3,S3,n3⟩:=ihk k' bw hI2 H2 S2 n1;exact⟨ex,af3,h3,f3,o3,c3,ρ3,F3,r1.RV r3,q3,H3,S3,n3⟩
    |exit id=>exact⟨.exit id,nK,h1,f1,o1,c1,iE,F1,r1.Ie (by simp),q1,H1,S1,n1⟩
    |ret=>exact⟨.ret,nK,h1,f1,o1,c1,iE,F1,r1.Ie (by simp),q1,H1,S1,n1⟩
  exact main k0 hI1 H1 S1 hn
 |_=>intro ρ F o c f af h Q hw H S hn;exact hw.elim
end
section
variable {T E:Env} {X:Cx} {ρ:Gh} {F:Nat→Prop} {o:Ob} {c n:Nat} {f:Fr} {af:AF} {h:ah}
theorem ur:∀(l:List Value) (i:Nat) (f:AF) (t:Nat),(AF.qa l i f).get t=(if i≤t∧t<i+l.length∧t<f.n then(match l[t - i]? with|some v=>v|none=>undef)else f.get t)∧(AF.qa l i f).n=f.n
 |[],i,f,t=>by
  refine⟨?_,rfl⟩;rw[if_neg (by simp only[List.length_nil];omega)];rfl
 |v::l,i,f,t=>by
  simp only[AF.qa];obtain⟨h1,h2⟩:=ur l (i+1) (f.set i v) t;rw[AF.zG]at h1 h2;refine⟨?_,h2⟩;rw[h1];by_cases hx:i+1≤t∧t<i+1+l.length∧t<f.n
  ·rw[if_pos hx,if_pos (by simp only[List.length_cons];omega)];have:t - i=(t - (i+1))+1:=by omega
   rw[this,List.getElem?_cons_succ]
  ·rw[if_neg hx,AF.iB];by_cases e:t=i
   ·subst e;by_cases hn:t<f.n
    ·rw[if_pos ⟨rfl,hn⟩,if_pos (by simp only[List.length_cons];omega)];simp
    ·rw[if_neg (fun h=>hn h.2),if_neg om]
   ·rw[if_neg (fun h=>e h.1),if_neg (by simp only[List.length_cons];omega)]
theorem De:∀(l:List TV) (i t:Nat),pe (tj i l) t=if i≤t then(match l[t - i]? with|some v=>v|none=>.j)else .j
 |[],i,t=>by simp[tj,pe]
 |v::l,i,t=>by
  simp only[tj];rw[oy,De l (i+1) t];by_cases e:i=t
  ·subst e;simp
  ·rw[if_neg e];by_cases hx:i+1≤t
   ·rw[if_pos hx,if_pos om];have:t - i=(t - (i+1))+1:=by omega
    rw[this,List.getElem?_cons_succ]
   ·rw[if_neg hx];by_cases hy:i≤t
    ·omega
    ·rw[if_neg hy]
theorem qO {args:List TV} {dW:List Value} (H:ee c ρ F h args dW) (hn:args.length≤n):bH c ρ F h (tj 0 args) (AF.enter dW n)∧(AF.enter dW n).n=n:=by
 refine⟨fun t=>?_,(ur dW 0 _ 0).2⟩;rw[De,if_pos (Nat.zero_le _)];cases ht:args[t - 0]? with
 |none=>exact .j _
 |some v=>
  simp only
  have bw:=(List.getElem?_eq_some_iff.1 ht).1;obtain⟨x,hx⟩:∃x,dW[t - 0]? =some x:=⟨_,List.getElem?_eq_getElem (by rw[←H.1];exact bw)⟩;have:=(ur dW 0 ⟨.nil,n⟩ t).1;unfold AF.enter;rw[this,if_pos ⟨Nat.zero_le _,by rw[←H.1];omega,by simp only;omega⟩,hx];exact H.2 _ _ _ ht hx
theorem vF (L:cm T E) (H:Mem X ρ F o c h) (S:bH c ρ F h f af):∀{rs:List ResultVar} {vs:List TV},EY T f o rs=some vs→∃xs,cY E h af rs=some xs∧ee c ρ F h vs xs
 |[],vs,hv=>by simp[EY]at hv;subst hv;exact⟨[],rfl,.nil⟩
 | .tmp t::l,vs,hv=>by
  unfold EY at hv;split at hv
  ·rename_i ws YS;cases hv;obtain⟨xs,h1,h2⟩:=vF L H S YS;exact⟨_,by simp[cY,h1],.cons (S t) h2⟩
  ·cases hv
 | .cell a t::l,vs,hv=>by
  unfold EY at hv;split at hv
  ·rename_i m q agg n ha hs;split at hv
   ·rename_i cs hl;split at hv
    ·rename_i w hw;split at hv
     ·rename_i v ws zc YS pR;cases hv;obtain⟨xs,h1,h2⟩:=vF L H S YS;obtain⟨Sm,hO⟩:=H.cC hl;have hp:=S a;rw[ha]at hp;cases hO with
      |cells hb hg pU hc=>
       rename_i Sq b aS cs';cases hE:af.get a with
       |pointer p=>
        rw[hE]at hp;cases hp with
        |ptr cA=>
         rw[hb]at cA;cases cA;rw[bf]at hw;obtain⟨w1,rfl⟩:=hw;obtain⟨S1,S2,S3,_,a1,a2,a3⟩:=hc.part q n;obtain⟨k2,_⟩:=a2.vrs (fun t v hv hf=>hv.eo hf) pR;have k1:takeN n (cs'.drop q)=some ((cs'.drop q).take n):=by
          rw[bf];have:=hc.len;simp only[List.length_drop]at w1 ⊢;exact⟨om,trivial⟩
         obtain⟨x,k3,k4⟩:=gP zc k2;have HT:M.ai h b q n=some ((cs'.drop q).take n):=by
          unfold M.ai;rw[eu (bR hg hg) pU (az hg)];exact k1
         exact⟨x::xs,by simp[cY,hE,jF,L.shape hs,HT,k3,h1],.cons k4 h2⟩
       |_=>rw[hE]at hp;cases hp
     ·cases hv
    ·cases hv
   ·cases hv
  ·cases hv
theorem MJ {vs:List TV} {xs:List Value} (H:ee c ρ F h vs xs):VR c ρ F h (VP vs) (ct xs):=by
 match vs,xs,H with
 |[],xs,H=>rw[H.bU];exact .jj .nil
 |[v],xs,H=>
  obtain⟨x,m,rfl,h1,h2⟩:=H.aY;rw[h2.bU];exact h1
 |v::w::l,xs,H=>
  obtain⟨x,m,rfl,h1,h2⟩:=H.aY;obtain⟨y,m',rfl,h3,h4⟩:=h2.aY;exact .jj (by simpa using ee.cons h1 (.cons h3 h4))
theorem VC.aar (L:cm T E) {g:FuncId} {fn:Func} {code:Code} {c0:Nat} {args:List TV} {o0:Ob} {R:TV→Ob→Nat→Prop} (hf:E.func g=some fn)
 (ho:∀base ρ F h S dW,Mem (uq base ρ F o0 c0 h S) ρ F o0 c0 h→ee c0 ρ F h args dW→E.v9 base g dW h=none) (hb:fn.body=some code) (hlen:Nat.ble args.length fn.ntmps=true)
 (c9:List Nat) (hw:wp T (VC E) fn.ntmps c0 c9 code (tj 0 args) o0 c0 (He T c0 fn.results.toList R)):VC E g c0 args o0 R:=by
 intro base ρ F h S0 dW HN H HO Df;obtain⟨S,hn⟩:=qO Df (aL.1 hlen);obtain⟨ex,mu,h',f',o',c',ρ',F',⟨n0,hr⟩,hq,M',S',U8⟩:=Ig (X:=uq base ρ F o0 c0 h S0) L HN code hw H S hn;unfold He at hq
 have fin:∀{vs:List TV} {sh:List Nat} {ids:List (Option Nat)} {U:List Nat} {r:TV} {o1:Ob},(ex= .normal∨ex= .ret)→EY T f' o' fn.results.toList=some vs→(iO c' ids&&pQ c0 0 ids&&lO ids U)=true→leV ids (ck sh o') (VP vs) r→Kd ids (ck sh o') U o1→R r o1 ids.length→
  ∃n v h2 ρ' F' r o' c',fW E base n g dW h=some (v,h2)∧R r o' c'∧Mem (uq base ρ F o0 c0 h S0) ρ' F' o' c' h2∧VR c' ρ' F' h2 r v:=by
  intro vs sh ids U r o1 hex JE hi hle hO hR;simp only[Bool.and_eq_true]at hi;obtain⟨xs,k1,k2⟩:=vF L M' S' JE;obtain⟨F1,S1⟩:=iQ M' sh;have M2:=S1.mem.le hi.1.1 hi.1.2 hi.2 hO;refine⟨n0,ct xs,h',_,F1,r,o1,ids.length,?_,hR,M2,pg S1.mem _ _ _ hle (S1.bx _ _ (MJ k2))⟩;unfold fW eE;rw[hf];simp only[Option.bind_some,ho _ _ _ _ _ _ H Df,hb,←Df.1,hlen,bL];have mn:=hr n0 (Nat.le_refl _);have oO:aN E base n0 code (AF.enter dW fn.ntmps) h=some (ex,mu,h'):=mn;rw[oO];rcases hex with rfl |rfl<;>simp[k1]
 cases ex with
 |exit id=>exact hq.elim
 |normal=>
  simp only at hq;split at hq
  ·rename_i vs JE;obtain⟨sh,ids,U,r,o1,⟨hle,hO,hi⟩,hR⟩:=hq;exact fin (.inl rfl) JE hi hle hO hR
  ·exact hq.elim
 |ret=>
  simp only at hq;split at hq
  ·rename_i vs JE;obtain⟨sh,ids,U,r,o1,⟨hle,hO,hi⟩,hR⟩:=hq;exact fin (.inr rfl) JE hi hle hO hR
  ·exact hq.elim
theorem VC.enter (L:cm T E) {g:FuncId} {fn:Func} {code:Code} {c0:Nat} {args:List TV} {o0:Ob} {R:TV→Ob→Nat→Prop} (hf:E.func g=some fn) (ho:∀b a,E.v9 b g a=fun _=>none) (hb:fn.body=some code) (hlen:Nat.ble args.length fn.ntmps=true)
 (c9:List Nat) (hw:wp T (VC E) fn.ntmps c0 c9 code (tj 0 args) o0 c0 (He T c0 fn.results.toList R)):VC E g c0 args o0 R:=
 VC.aar L hf (fun _ _ _ _ _ _ _ _=>congrFun (ho _ _) _) hb hlen c9 hw
theorem VC.mono {g:FuncId} {c0:Nat} {args:List TV} {o0:Ob} {R R':TV→Ob→Nat→Prop} (H:VC E g c0 args o0 R) (hR:∀r o c,R r o c→R' r o c):VC E g c0 args o0 R':=by
 intro base ρ F h S dW hN hM hO hA;obtain⟨n,v,h',ρ',F',r,o',c',h1,h2,h3⟩:=H base ρ F h S dW hN hM hO hA;exact⟨n,v,h',ρ',F',r,o',c',h1,hR _ _ _ h2,h3⟩
theorem VC.v9 {g:FuncId} {c0:Nat} {args:List TV} {o0:Ob} {v:Value} (hf:(E.func g).isSome=true) (ho:∀b a h,a.length=args.length→E.v9 b g a h=some (v,h)) (hp:ay v=true):VC E g c0 args o0 (fun r o c=>r= .s v∧o=o0∧c=c0):=by
 intro base ρ F h S dW hN hM hO hA;obtain⟨fn,hf⟩:=Option.isSome_iff_exists.1 hf;refine⟨0,v,h,ρ,F,.s v,o0,c0,?_,⟨rfl,rfl,rfl⟩,hM,.s hp⟩;unfold fW eE;rw[hf];simp only[Option.bind_some,ho _ dW h hA.1.symm]
end
section
variable {E:Env}
def RX (sub:TypeId→Option (List Nat)) (E:Env):List Field→Nat→Option (List Nat)
 |[],_=>some []
 |f::fs,off=>bL (f.name != "_"&&Nat.beq f.offset off)<|(sub f.type).bind fun ks=>(fi E f.type).bind fun s=>bL (Nat.beq s.2 ks.length)<|(RX sub E fs (off+ks.length)).bind fun r=>some (ks++r)
def ceq (E:Env):Nat→TypeId→Option (List Nat)
 |0,_=>none
 |d+1,t=>(E.desc t).bind fun ds=>match ds with
  | .bool=>some [1]
  | .int k=>some [jB k]
  | .string=>some [2]
  | .struct fields=>bL (E.uQ t) (RX (ceq E d) E fields.toList 0)
  |_=>none
def nL:List Nat→List Value→List Value→Option Bool
 |[],[],[]=>some true
 |k::ks,v::l,w::m=>(match Nat.blt 0 k&&Nat.beq (bn v) k&&Nat.beq (bn w) k with
  |true=>(match nL ks l m with|some r=>some (Oc v w&&r)|none=>none)
  |false=>none)
 |_,_,_=>none
theorem RY:∀{zs:List Value} {xs ys:List TV} {r:Bool},nr zs xs ys=some r→nL (zs.map bn) (xs.map unS) (ys.map unS)=some r
 |[],[],[],r,h=>by simpa[nr,nL]using h
 |[],[],_::_,r,h=>by simp[nr]at h
 |[],x::l,ys,r,h=>by simp[nr]at h
 |z::zs,[],ys,r,h=>by simp[nr]at h
 |z::zs,x::l,[],r,h=>by cases x<;>simp[nr]at h
 |z::zs,x::l,y::m,r,h=>by
  cases x<;>try(simp[nr]at h;done)
  rename_i v;cases y<;>try(simp[nr]at h;done)
  rename_i w;simp only[nr]at h;simp only[List.map_cons,nL];cases hc:(Nat.blt 0 (bn z)&&Nat.beq (bn v) (bn z)&&Nat.beq (bn w) (bn z))with
  |false=>rw[hc]at h;cases h
  |true=>
   rw[hc]at h;simp only at h;cases hq:nr zs l m with
   |none=>rw[hq]at h;cases h
   |some r'=>
    rw[hq]at h;have nW:(Nat.blt 0 (bn z)&&Nat.beq (bn (unS (.s v))) (bn z)&&Nat.beq (bn (unS (.s w))) (bn z))=true:=hc;rw[nW,RY hq];exact h
theorem yc:∀{ks YT:List Nat} {l l' m m':List Value},l.length=ks.length→m.length=ks.length→nL (ks++YT) (l++l') (m++m')=(nL ks l m).bind fun a=>(nL YT l' m').bind fun b=>some (a&&b)
 |[],YT,[],l',[],m',_,_=>by simp[nL]
 |k::ks,YT,v::l,l',w::m,m',h1,h2=>by
  simp only[List.cons_append,nL];rw[yc (by simpa using h1) (by simpa using h2)];split
  ·cases nL ks l m<;>cases nL YT l' m'<;>simp[Bool.and_assoc]
  ·rfl
 |[],_,_::_,_,_,_,h1,_=>by simp at h1
 |[],_,[],_,_::_,_,_,h2=>by simp at h2
 |_::_,_,[],_,_,_,h1,_=>by simp at h1
 |_::_,_,_::_,_,[],_,_,h2=>by simp at h2
theorem AU:∀{ks:List Nat} {l m:List Value} {r:Bool},nL ks l m=some r→l.length=ks.length∧m.length=ks.length
 |[],[],[],r,_=>⟨rfl,rfl⟩
 |[],[],_::_,r,h=>by simp[nL]at h
 |[],_::_,_,r,h=>by simp[nL]at h
 |_::_,[],_,r,h=>by simp[nL]at h
 |_::_,_::_,[],r,h=>by simp[nL]at h
 |k::ks,v::l,w::m,r,h=>by
  simp only[nL]at h;split at h
  ·split at h
   ·rename_i hq;obtain⟨h1,h2⟩:=AU hq;exact⟨by simp[h1],by simp[h2]⟩
   ·cases h
  ·cases h
def ofV (agg:Bool) (l:List Value):Value:=match agg,l with
 |true,l=>.agg l.toArray
 |false,v::_=>v
 |false,[]=>undef
theorem RZ (k:IntKind):3≤jB k:=by cases k<;>simp[jB]
theorem Ih {k k':IntKind} (h:jB k=jB k'):k=k':=by cases k<;>cases k'<;>simp[jB]at h<;>rfl
theorem R8:∀(d:Nat) {t:TypeId} {ks:List Nat} {l m:List Value} {r:Bool},ceq E d t=some ks→nL ks l m=some r→∃ds,E.desc t=some ds∧
 (∀s,fi E t=some s→s.1=isAgg ds)∧yH E d t (ofV (isAgg ds) l) (ofV (isAgg ds) m)=some r
 |0,t,ks,l,m,r,h,_=>by simp[ceq]at h
 |d+1,t,ks,l,m,r,h,hv=>by
  unfold ceq at h;simp only[Option.bind_eq_some_iff]at h;obtain⟨ds,h1,h2⟩:=h;have hl:=AU hv;have aat:∀{k:Nat},ks=[k]→isAgg ds=false→(∀v w:Value,bn v=k→bn w=k→yH E (d+1) t v w=some (Oc v w))→∃ds,E.desc t=some ds∧(∀s,fi E t=some s→s.1=isAgg ds)∧yH E (d+1) t (ofV (isAgg ds) l) (ofV (isAgg ds) m)=some r:=by
   rintro k rfl ha hq;refine⟨ds,h1,fun s hs=>?_,?_⟩
   ·unfold fi at hs;rw[h1]at hs;simp only[Option.bind_some,ha,cond_false,Option.some.injEq]at hs;subst hs;exact ha.symm
   ·rw[ha]
    match l,m,hl with
    |[v],[w],_=>
     simp only[nL]at hv;split at hv
     ·rename_i hc;simp only[Bool.and_eq_true,beq_iff]at hc;simp only[Bool.and_true]at hv;rw[←hv];exact hq v w hc.1.2 hc.2
     ·cases hv
  split at h2
  ·cases h2;refine aat rfl rfl fun v w hk r7=>?_;cases v<;>simp[bn]at hk<;>try(rename_i i _;cases i<;>simp[jB]at hk;done)
   cases w<;>simp[bn]at r7<;>try(rename_i i _;cases i<;>simp[jB]at r7;done)
   simp[yH,h1,Oc]
  ·rename_i k;cases h2;refine aat rfl rfl fun v w hk r7=>?_;have hp:=RZ k;cases v<;>simp[bn]at hk<;>try omega
   cases w<;>simp[bn]at r7<;>try omega
   rw[Ih hk,Ih r7];simp[yH,h1,Oc]
  ·cases h2;refine aat rfl rfl fun v w hk r7=>?_;cases v<;>simp[bn]at hk<;>try(rename_i i _;cases i<;>simp[jB]at hk;done)
   cases w<;>simp[bn]at r7<;>try(rename_i i _;cases i<;>simp[jB]at r7;done)
   simp[yH,h1,Oc]
  ·rename_i fields;rw[aj]at h2;obtain⟨he,hF⟩:=h2;refine⟨_,h1,fun s hs=>?_,?_⟩
   ·unfold fi at hs;rw[h1]at hs;simp only[Option.bind_some,isAgg,cond_true,Option.bind_eq_some_iff]at hs;obtain⟨n,_,h4⟩:=hs;cases h4;rfl
   ·have key:∀(fs:List Field) (off:Nat) (ks:List Nat) (l0 m0 l m:List Value) (r:Bool),RX (ceq E d) E fs off=some ks→l0.length=off→m0.length=off→nL ks l m=some r→JL (qe E) (yH E d) (l0++l) (m0++m) fs=some r:=by
     intro fs
     induction fs with
     |nil=>
      intro off ks l0 m0 l m r hc _ _ hv;simp[RX]at hc;subst hc;cases l<;>cases m<;>simp[nL]at hv;simp[JL,hv]
     |cons f fs ih=>
      intro off ks l0 m0 l m r hc y8 JO hv;simp only[RX,aj,Bool.and_eq_true,beq_iff,Option.bind_eq_some_iff,Option.some.injEq]at hc;obtain⟨⟨hn,aau⟩,k1,sY,s,hs,fq,k2,tu,rfl⟩:=hc;obtain⟨JC,zE⟩:=AU hv;rw[List.length_append]at JC zE;have el:l=l.take k1.length++l.drop k1.length:=(List.take_append_drop _ _).symm;have em:m=m.take k1.length++m.drop k1.length:=(List.take_append_drop _ _).symm;have tl:(l.take k1.length).length=k1.length:=by simp;omega
      have tm:(m.take k1.length).length=k1.length:=by simp;omega
      rw[el,em,yc tl tm]at hv;simp only[Option.bind_eq_some_iff,Option.some.injEq]at hv;obtain⟨r1,jI,r2,oO,rfl⟩:=hv;obtain⟨ds',_,aeX,hae⟩:=R8 d sY jI;generalize isAgg ds'=agg at aeX hae;have B4:=aeX s hs;have part:∀(x0 x:List Value),x0.length=off→k1.length≤x.length→qe E f.type (x0++x) f.offset=some (ofV agg (x.take k1.length)):=by
       intro x0 x u5 hx;unfold qe;rw[hs];simp only[Option.bind_some];rw[aau,←u5,List.drop_left,fq];have ht:takeN k1.length x=some (x.take k1.length):=by rw[bf];exact⟨hx,rfl⟩
       rw[ht,B4];cases agg with
       |true=>rfl
       |false=>
        have:s.2=1:=by
         obtain⟨a,n⟩:=s;simp only at B4;subst B4;unfold fi at hs;simp only[Option.bind_eq_some_iff]at hs;obtain⟨dd,_,h5⟩:=hs;cases hia:isAgg dd with
         |true=>
          rw[hia]at h5;simp only[cond_true,Option.bind_eq_some_iff]at h5;obtain⟨_,_,h6⟩:=h5;cases h6
         |false=>rw[hia]at h5;cases h5;rfl
        have hk:k1.length=1:=by omega
        rw[hk]at hx ⊢
        match x,hx with
        |v::x',_=>simp[da,ofV]
      simp only[JL,aj];refine⟨hn,?_⟩;rw[part l0 l y8 om,part m0 m JO om];simp only[Option.bind_some,hae];have:=ih (off+k1.length) k2 (l0++l.take k1.length) (m0++m.take k1.length) (l.drop k1.length) (m.drop k1.length) r2 tu (by rw[List.length_append,y8,tl]) (by rw[List.length_append,JO,tm]) oO;rw[List.append_assoc,List.append_assoc,←el,←em]at this;cases r1 with
      |true=>simp only[Bool.true_and];exact this
      |false=>rfl
    have:=key fields.toList 0 ks [] [] l m r hF rfl rfl hv;simp only[List.nil_append]at this;show yH E (d+1) t (.agg l.toArray) (.agg m.toArray)=some r;unfold yH;rw[h1];simp only[Option.bind_some,aj];exact⟨he,this⟩
  ·cases h2
def wU:List Nat→List Nat→Bool
 |[],[]=>true
 |a::l,b::m=>Nat.beq a b&&wU l m
 |_,_=>false
theorem Dg:∀{a b:List Nat},wU a b=true→a=b
 |[],[],_=>rfl
 |[],_::_,h=>by simp[wU]at h
 |_::_,[],h=>by simp[wU]at h
 |x::a,y::b,h=>by
  simp only[wU,Bool.and_eq_true,beq_iff]at h;rw[h.1,Dg h.2]
def ML (E:Env) (t:TypeId):Bool:=E.uQ t&&(match E.desc t,ceq E 100 t,E.zero t with
 |some d,some ks,some (.agg a)=>isAgg d&&wU (a.toList.map bn) ks
 |_,_,_=>false)
theorem AV {n:Nat}:∀{l:List Nat},ot n l=true→n∈l
 |[],h=>by simp[ot]at h
 |m::l,h=>by
  unfold ot at h;split at h
  ·rename_i e;rw[beq_iff]at e;simp[e]
  ·exact List.mem_cons_of_mem _ (AV h)
def tES (E:Env) (l st:List Nat):Env:={E with uQ:=fun t=>ot t l,still:=fun g=>ot g st}
def tE (E:Env) (l:List Nat):Env:=tES E l []
theorem aav {l st:List Nat} (hz:∀t z,E.zero t=some z→fF z=true) (hl:l.all (ML E)=true) (bz:∀g,ot g st=true→Kl E g):cm (tES E l st) E:=by
 refine⟨fun _ _ h=>h,fun _ _ h=>h,fun _ _ h=>h,fun t z h=>⟨h,hz t z h⟩,fun t a b z xs ys r he hzt hr ha hb=>?_,fun _ _ h=>h,bz⟩;have ja:=List.all_eq_true.1 hl t (AV he);unfold ML at ja;simp only[Bool.and_eq_true]at ja;obtain⟨h1,h2⟩:=ja;refine⟨h1,?_⟩;have ai4:E.zero t=some z:=hzt;split at h2
 ·rename_i dd ks a0 hd hk Gy;simp only[Bool.and_eq_true]at h2;rw[ai4,Option.some.injEq]at Gy;subst Gy;have CI:=Dg h2.2;have hv:=RY hr;simp only[Value.cells]at hv;rw[CI,←ha,←hb]at hv;obtain⟨ds,cM,_,hae⟩:=R8 100 hk hv;rw[hd]at cM;cases cM;rw[h2.1]at hae;simpa[ofV]using hae
 ·cases h2
theorem YU {l:List Nat} (hz:∀t z,E.zero t=some z→fF z=true) (hl:l.all (ML E)=true):cm (tE E l) E:=aav hz hl fun g h=>by simp[ot]at h
end
def ints (l:List Int):List (List TV):=l.map fun n=>[.s (.int .i64 n)]
inductive Sh where
 |bool
 |int (k:IntKind)
 |str
 |sl (e:List Sh)
mutual
def Fit:Sh→TV→Prop
 | .bool,t=>∃b,t= .s (.bool b)
 | .int k,t=>∃n,k.min≤n∧n≤k.max∧t= .s (.int k n)
 | .str,t=>∃s:ByteArray,s.size≤maxLen∧t= .s (.string s)
 | .sl e,t=>∃es:List (List TV),es.length≤maxLen∧(∀r∈es,Fits e r)∧t= .sl e.length es false
def Fits:List Sh→List TV→Prop
 |[],l=>l=[]
 |s::ss,l=>∃t r,l=t::r∧Fit s t∧Fits ss r
end
theorem Fit.fz {s:Sh} {t:TV} (h:Fit s t):M.fz t=true:=by
 cases s with
 |bool=>simp only[Fit]at h;obtain⟨b,rfl⟩:=h;rfl
 |int k=>simp only[Fit]at h;obtain⟨n,_,_,rfl⟩:=h;rfl
 |str=>simp only[Fit]at h;obtain⟨n,_,rfl⟩:=h;rfl
 |sl e=>simp only[Fit]at h;obtain⟨es,_,_,rfl⟩:=h;rfl
theorem Fits.fz:∀{ss:List Sh} {l:List TV},Fits ss l→∀t∈l,M.fz t=true
 |[],l,h,t,ht=>by simp only[Fits]at h;subst h;cases ht
 |s::ss,l,h,t,ht=>by
  simp only[Fits]at h;obtain⟨t0,r,rfl,h1,h2⟩:=h;rcases List.mem_cons.1 ht with rfl |ht
  ·exact h1.fz
  ·exact Fits.fz h2 t ht
theorem Fits.length:∀{ss:List Sh} {l:List TV},Fits ss l→l.length=ss.length
 |[],l,h=>by simp only[Fits]at h;subst h;rfl
 |s::ss,l,h=>by
  simp only[Fits]at h;obtain⟨t0,r,rfl,h1,h2⟩:=h;simp[Fits.length h2]
theorem Fits.append:∀{ss R9:List Sh} {l l':List TV},Fits ss l→Fits R9 l'→Fits (ss++R9) (l++l')
 |[],R9,l,l',h,h'=>by simp only[Fits]at h;subst h;exact h'
 |s::ss,R9,l,l',h,h'=>by
  simp only[Fits]at h;obtain⟨t0,r,rfl,h1,h2⟩:=h;simp only[List.cons_append,Fits];exact⟨_,_,rfl,h1,Fits.append h2 h'⟩
def vG (P:Program) (f:TypeId→List Sh→Bool):List Field→Nat→List Sh→Bool
 |[],_,ss=>ss.isEmpty
 |x::xs,o,ss=>Nat.beq x.offset o&&Nat.ble (P.cellsOf x.type) ss.length&&f x.type (ss.take (P.cellsOf x.type))&&vG P f xs (o+P.cellsOf x.type) (ss.drop (P.cellsOf x.type))
def Sc (f:List Sh→Bool) (z:Nat):Nat→List Sh→Bool
 |0,ss=>ss.isEmpty
 |n+1,ss=>Nat.ble z ss.length&&f (ss.take z)&&Sc f z n (ss.drop z)
def Vl (P:Program):Nat→TypeId→List Sh→Bool
 |0,_,_=>false
 |n+1,t,ss=>match P.underlying t with
  |some .bool=>(match ss with|[.bool]=>true|_=>false)
  |some (.int k)=>(match ss with|[.int k']=>decide (k'=k)|_=>false)
  |some .string=>(match ss with|[.str]=>true|_=>false)
  |some (.slice e)=>(match ss with|[.sl es]=>Nat.beq (P.cellsOf e) es.length&&Nat.blt 0 es.length&&Vl P n e es|_=>false)
  |some (.struct fs)=>Nat.beq (P.cellsOf t) ss.length&&vG P (Vl P n) fs.toList 0 ss
  |some (.array m e)=>Nat.beq (P.cellsOf t) ss.length&&Sc (Vl P n e) (P.cellsOf e) m ss
  |_=>false
structure AR (W:World) (μ:bD) (h:ah):Prop where
 high:∀b,h.size≤b→h.get b=none
 all:∀b,b<h.size→∃cs,h.get b=some (.cells cs b (b+1) 0)
 g8:∀b m,μ b=some m→b<h.size
 obj:∀b m,μ b=some m→∃cs c e fr,h.get b=some (.cells cs b (b+1) 0)∧W.heap[m.r]? =some (.cells c e fr)∧c.size=m.n∧m.s+cs.length≤m.n∧
  ∀(i:Nat) v,cs[i]? =some v→∃v',c[m.s+i]? =some v'∧aq μ v v'
def Grown (h h':ah):Prop:=h.size≤h'.size∧∀b,b<h.size→h'.get b=h.get b
theorem Grown.refl (h:ah):Grown h h:=⟨Nat.le_refl _,fun _ _=>rfl⟩
theorem Grown.trans {a b c:ah} (h:Grown a b) (k:Grown b c):Grown a c:=⟨Nat.le_trans h.1 k.1,fun x hx=>by rw[k.2 x (Nat.lt_of_lt_of_le hx h.1),h.2 x hx]⟩
theorem AR.rd {W:World} {μ:bD} {h:ah} (_:AR W μ h) {b:Nat} {cs:List Value} (hg:h.get b=some (.cells cs b (b+1) 0)):h.rd b=some cs:=
 eu (bR hg hg) (Nat.zero_le _) (by unfold ah.cellsOf;rw[hg])
theorem AR.Sd {W:World} {μ bd:bD} {h h':ah} (H:AR W μ h) (H':AR W bd h') (g:Grown h h') {b:Nat} {cs:List Value} (hb:b<h.size) (hr:h.rd b=some cs):h'.rd b=some cs:=by
 obtain⟨ME,hg⟩:=H.all b hb;have e:=H.rd hg;rw[hr]at e;cases e;exact H'.rd (by rw[g.2 b hb,hg])
theorem AR.zn {W:World} {μ bd:bD} {h h':ah} (H:AR W μ h) (H':AR W bd h') (g:Grown h h') {t:TV} {v:Value} (hv:VR 0 wD (· <h.size) h t v):VR 0 wD (· <h'.size) h' t v:=
 hv.mono (Nat.le_refl _) (fun _ _ _ hx=>hx) (fun _ _ hx=>hx) (fun _ hb=>Nat.lt_of_lt_of_le hb g.1) fun _ _ hb hr=>H.Sd H' g hb hr
def Laid (W:World) (ss:List Sh) (cs:List Value):Prop:=∀μ h,AR W μ h→∃bd h' Dh vs,AR W bd h'∧μ.le bd∧Grown h h'∧Fits ss Dh∧ee 0 wD (· <h'.size) h' Dh vs∧ax bd vs cs
theorem Laid.nil (W:World):Laid W [] []:=fun μ h H=>⟨μ,h,[],[],H,μ.le_refl,.refl h,by simp[Fits],.nil,.nil⟩
theorem Laid.append {W:World} {ss R9:List Sh} {cs cs':List Value} (h1:Laid W ss cs) (h2:Laid W R9 cs'):Laid W (ss++R9) (cs++cs'):=by
 intro μ h H;obtain⟨gz,k1,t1,v1,H1,l1,g1,f1,r1,x1⟩:=h1 μ h H;obtain⟨xF,k2,t2,v2,H2,l2,g2,f2,r2,x2⟩:=h2 gz k1 H1;exact⟨xF,k2,t1++t2,v1++v2,H2,bD.le_trans l1 l2,g1.trans g2,f1.append f2,(r1.tn fun _ _ hv=>H1.zn H2 g2 hv).append r2,(x1.mono l2).append x2⟩
theorem Laid.scalar {W:World} {s:Sh} {v:Value} (hp:ay v=true) (hf:Fit s (.s v)):Laid W [s] [v]:=fun μ h H=>
 ⟨μ,h,[.s v],[v],H,μ.le_refl,.refl h,by simp only[Fits];exact⟨_,_,rfl,hf,rfl⟩,.cons (.s hp) .nil,.cons (.lit hp) .nil⟩
theorem Laid.rows {W:World} {e:List Sh}:∀{rows:List (List Value)},(∀r∈rows,Laid W e r)→∀μ h,AR W μ h→∃(bd:bD) (h':ah) (es:List (List TV)) (vs:List Value),AR W bd h'∧μ.le bd∧Grown h h'∧es.length=rows.length∧(∀r∈es,Fits e r)∧
 ee 0 wD (· <h'.size) h' es.flatten vs∧ax bd vs rows.flatten
 |[],_,μ,h,H=>⟨μ,h,[],[],H,μ.le_refl,.refl h,rfl,by simp,.nil,.nil⟩
 |r::rows,hr,μ,h,H=>by
  obtain⟨gz,k1,t1,v1,H1,l1,g1,f1,r1,x1⟩:=hr r List.mem_cons_self μ h H;obtain⟨xF,k2,es,v2,H2,l2,g2,n2,f2,r2,x2⟩:=Laid.rows (rows:=rows) (fun r' h'=>hr r' (List.mem_cons_of_mem _ h')) gz k1 H1;refine⟨xF,k2,t1::es,v1++v2,H2,bD.le_trans l1 l2,g1.trans g2,by simp[n2],?_,?_,?_⟩
  ·intro r' mn;rcases List.mem_cons.1 mn with rfl |mn
   ·exact f1
   ·exact f2 r' mn
  ·rw[List.flatten_cons];exact(r1.tn fun _ _ hv=>H1.zn H2 g2 hv).append r2
  ·rw[List.flatten_cons];exact(x1.mono l2).append x2
theorem AW {α:Type} {z:Nat}:∀{es:List (List α)},(∀e∈es,e.length=z)→∀(i j:Nat) e t,es[i]? =some e→e[j]? =some t→es.flatten[i*z+j]? =some t
 |[],_,i,j,e,t,h,_=>by simp at h
 |e0::es,hz,i,j,e,t,h,k=>by
  rw[List.flatten_cons];have h0:=hz e0 List.mem_cons_self;cases i with
  |zero=>
   simp at h;subst h;have:j<e0.length:=(List.getElem?_eq_some_iff.1 k).1;rw[Nat.zero_mul,Nat.zero_add,List.getElem?_append_left this,k]
  |succ i=>
   rw[List.getElem?_append_right (by rw[h0,Nat.succ_mul];omega),h0,show(i+1)*z+j - z=i*z+j by rw[Nat.succ_mul];omega];exact AW (fun e' h'=>hz e' (List.mem_cons_of_mem _ h')) i j e t (by simpa using h) k
theorem Ii {α:Type} {z:Nat}:∀{es:List (List α)},(∀e∈es,e.length=z)→es.flatten.length=es.length*z
 |[],_=>by simp
 |e0::es,hz=>by
  rw[List.flatten_cons,List.length_append,Ii (fun e' h'=>hz e' (List.mem_cons_of_mem _ h')),hz e0 List.mem_cons_self,List.length_cons,Nat.succ_mul];omega
theorem AR.push {W:World} {μ:bD} {h:ah} (H:AR W μ h) {vs cs:List Value} (hv:ax μ vs cs) {r s:Nat} {c:Array Value} {e:TypeId} {fr:Nat×Nat} (hr:W.heap[r]? =some (.cells c e fr))
 (hle:s+cs.length≤c.size) (hc:∀(i:Nat) v,cs[i]? =some v→c[s+i]? =some v):
 AR W (fun b=>if b=h.size then some ⟨r,s,c.size⟩else μ b) (h.push (.cells vs h.size (h.size+1) 0))∧μ.le (fun b=>if b=h.size then some ⟨r,s,c.size⟩else μ b):=by
 have aaw:μ.le (fun b=>if b=h.size then some ⟨r,s,c.size⟩else μ b):=fun b m hb=>by
  have:=H.g8 b m hb;show(if b=h.size then _ else _)=_;rw[if_neg om,hb]
 refine⟨⟨fun b hb=>?_,fun b hb=>?_,fun b m hb=>?_,fun b m hb=>?_⟩,aaw⟩
 ·rw[ah.size_push]at hb;rw[ah.al,if_neg om];exact H.high b om
 ·rw[ah.size_push]at hb;rw[ah.al];by_cases e:b=h.size
  ·rw[if_pos e,e];exact⟨_,rfl⟩
  ·rw[if_neg e];exact H.all b om
 ·rw[ah.size_push];by_cases e:b=h.size
  ·omega
  ·rw[if_neg e]at hb;have:=H.g8 b m hb;omega
 ·by_cases e:b=h.size
  ·rw[if_pos e]at hb;cases hb;refine⟨vs,c,_,_,by rw[ah.al,if_pos e,e],hr,rfl,by rw[hv.length];exact hle,fun i v hi=>?_⟩;obtain⟨v',h1,h2⟩:=hv.get hi;exact⟨v',hc i v' h1,h2.mono aaw⟩
  ·rw[if_neg e]at hb;obtain⟨ME,c0,e0,fr0,q1,q2,q3,q4,q5⟩:=H.obj b m hb;exact⟨ME,c0,e0,fr0,by rw[ah.al,if_neg e];exact q1,q2,q3,q4,fun i v hi=>let⟨v',h1,h2⟩:=q5 i v hi;⟨v',h1,h2.mono aaw⟩⟩
theorem AR.dummy {W:World} {μ:bD} {h:ah} (H:AR W μ h):AR W μ (h.push (.cells [] h.size (h.size+1) 0)):=by
 refine⟨fun b hb=>?_,fun b hb=>?_,fun b m hb=>?_,fun b m hb=>?_⟩
 ·rw[ah.size_push]at hb;rw[ah.al,if_neg om];exact H.high b om
 ·rw[ah.size_push]at hb;rw[ah.al];by_cases e:b=h.size
  ·rw[if_pos e,e];exact⟨_,rfl⟩
  ·rw[if_neg e];exact H.all b om
 ·rw[ah.size_push];have:=H.g8 b m hb;omega
 ·have:=H.g8 b m hb;obtain⟨ME,c0,e0,fr0,q1,q2,q3,q4,q5⟩:=H.obj b m hb;exact⟨ME,c0,e0,fr0,by rw[ah.al,if_neg om];exact q1,q2,q3,q4,q5⟩
theorem uu {h:ah} (o:eC):Grown h (h.push o):=⟨by rw[ah.size_push];omega,fun b hb=>by rw[ah.al,if_neg om]⟩
theorem Laid.slice {W:World} {e:List Sh} (he:0<e.length) {a:Addr} {len cap:Nat} (NS:len≤cap) (ik:cap≤maxLen) {base:Nat}
 (ja:∀i,i<cap→∃r,W.cells? base (a.add (i*e.length)) e.length=some r∧(i<len→Laid W e r)):Laid W [.sl e] [.slice (some a) len cap]:=by
 intro μ h H;by_cases h0:cap=0
 ·subst h0;have:len=0:=by omega
  subst this;have H':=H.dummy;refine⟨μ,_,[.sl e.length [] false],[.slice (some ⟨h.size,0,some e.length⟩) 0 0],H',μ.le_refl,uu _,?_,.cons ?_ .nil,.cons (.dr fun h=>absurd rfl h) .nil⟩
  ·simp only[Fits,Fit];exact⟨_,_,rfl,⟨[],by simp,by simp,rfl⟩,rfl⟩
  ·refine .sl (b:=h.size) (o:=0) (cs:=[]) (by rw[ah.size_push];omega) ?_ he rfl (Nat.le_refl _) (fun _=>rfl) (by simp) (by simp) (by simp) (by simp);exact H'.rd (by rw[ah.al,if_pos rfl])
 ·-- the row
  have QM:∀i,i<cap→∀j,j<e.length→∃r,W.cells? base (a.add (i*e.length)) e.length=some r∧r.length=e.length∧W.cell? ((a.add (i*e.length)).add j)=r[j]? :=by
   intro i hi j hj;obtain⟨r,hr,_⟩:=ja i hi;obtain⟨_,h2,h3⟩:=World.cells?_some hr;exact⟨r,hr,h2,h3 j hj⟩
  have ai5:∀k j,((a.add k).add j).block=a.block:=by intro k j;unfold Addr.add;split<;>split<;>rfl
  have aau:∀k j,((a.add k).add j).off=a.off+k+j:=by
   intro k j;unfold Addr.add;split<;>split<;>(try simp only[])<;>omega
  have hsp:((a.add (0*e.length)).add 0)=a:=by rw[Nat.zero_mul];rfl
  obtain⟨c,ty,fr,hW,Sf⟩:∃c ty fr,W.heap[a.block]? =some (.cells c ty fr)∧a.spot=none:=by
   obtain⟨r,hr,h2,h3⟩:=QM 0 om 0 he;rw[hsp]at h3;have:r[0]? =some r[0]:=List.getElem?_eq_getElem om;rw[this]at h3;unfold World.cell? at h3;split at h3
   ·rename_i c ty fr hc;split at h3
    ·cases h3
    ·rename_i hs;exact⟨c,ty,fr,hc,by simpa using hs⟩
   ·cases h3
  have aay:∀k j,((a.add k).add j).spot=none:=by
   intro k j;unfold Addr.add;split<;>split<;>simp[Sf]
  have eW:∀i,i<cap→∀r,W.cells? base (a.add (i*e.length)) e.length=some r→r.length=e.length∧∀(j:Nat) v,r[j]? =some v→c[a.off+i*e.length+j]? =some v:=by
   intro i hi r hr;obtain⟨_,h2,h3⟩:=World.cells?_some hr;refine⟨h2,fun j v hv=>?_⟩;have hj:j<e.length:=by rw[←h2];exact(List.getElem?_eq_some_iff.1 hv).1
   have:=h3 j hj;unfold World.cell? at this;rw[ai5,hW,aay,aau,hv]at this;simpa using this
  have L6:a.off+cap*e.length≤c.size:=by
   obtain⟨r,hr,_⟩:=ja (cap - 1) om;obtain⟨h2,h3⟩:=eW _ om r hr;have h4:=h3 (e.length - 1) r[e.length - 1] (List.getElem?_eq_getElem om);have h5:=(Array.getElem?_eq_some_iff.1 h4).1;have:cap*e.length=(cap - 1)*e.length+e.length:=by rw[←Nat.succ_mul];congr 1;omega
   omega
  -- the elements
  let rows:=(List.range len).map fun i=>(W.cells? base (a.add (i*e.length)) e.length).getD []
  have Sg:∀i,i<len→rows[i]? =W.cells? base (a.add (i*e.length)) e.length:=by
   intro i hi;obtain⟨r,hr,_⟩:=ja i om;simp only[rows,List.getElem?_map,List.getElem?_range hi,Option.map_some,hr,Option.getD_some]
  have hlen:rows.length=len:=by simp[rows]
  have hz:∀r∈rows,r.length=e.length:=by
   intro r hr;obtain⟨i,hi,rfl⟩:=List.mem_iff_getElem.1 hr;have zO:i<len:=by omega
   obtain⟨r',mn,_⟩:=ja i om;have:=Sg i zO;rw[mn,List.getElem?_eq_getElem hi]at this;cases this;exact(eW i om _ mn).1
  have hL:∀r∈rows,Laid W e r:=by
   intro r hr;obtain⟨i,hi,rfl⟩:=List.mem_iff_getElem.1 hr;have zO:i<len:=by omega
   obtain⟨r',mn,hl⟩:=ja i om;have:=Sg i zO;rw[mn,List.getElem?_eq_getElem hi]at this;cases this;exact hl zO
  obtain⟨gz,k1,es,vs,H1,l1,g1,n1,f1,r1,x1⟩:=Laid.rows hL μ h H;have uY:=Ii hz;have s9:∀(i:Nat) v,rows.flatten[i]? =some v→c[a.off+i]? =some v:=by
   intro i v hv;have hi:=(List.getElem?_eq_some_iff.1 hv).1;rw[uY,hlen]at hi;have hq:i / e.length<len:=(Nat.div_lt_iff_lt_mul he).2 hi;have hm:i % e.length<e.length:=Nat.mod_lt _ he;have hdm:i / e.length*e.length+i % e.length=i:=by rw[Nat.mul_comm];exact Nat.div_add_mod _ _
   obtain⟨r',mn,_⟩:=ja (i / e.length) om;have h1:=Sg _ hq;rw[mn]at h1;obtain⟨q1,q2⟩:=eW _ om r' mn;have h2:r'[i % e.length]? =some r'[i % e.length]:=List.getElem?_eq_getElem om;have h3:=AW hz _ _ _ _ h1 h2;rw[hdm,hv]at h3;cases h3;have:=q2 _ _ h2;rw[show a.off+i / e.length*e.length+i % e.length=a.off+i by omega]at this;exact this
  have hle:a.off+rows.flatten.length≤c.size:=by
   rw[uY,hlen];have:=Nat.mul_le_mul_right e.length NS;omega
  obtain⟨H2,l2⟩:=H1.push x1 hW hle s9;have mq:∀r∈es,r.length=e.length:=fun r hr=>(f1 r hr).length;refine⟨_,_,[.sl e.length es false],[.slice (some ⟨k1.size,0,some e.length⟩) len cap],H2,bD.le_trans l1 l2,g1.trans (uu _),?_,.cons ?_ .nil,.cons ?_ .nil⟩
  ·simp only[Fits,Fit];exact⟨_,_,rfl,⟨es,om,f1,rfl⟩,rfl⟩
  ·have Yu:vs.length=len*e.length:=by rw[x1.length,uY,hlen]
   refine .sl (b:=k1.size) (o:=0) (cs:=vs) (by rw[ah.size_push];omega) ?_ he om NS (fun h=>by cases h) om mq (fun r hr t ht=>(f1 r hr).fz t ht) ?_
   ·exact H2.rd (by rw[ah.al,if_pos rfl])
   ·intro i j e' t v q1 q2 q3;have q4:=AW mq i j e' t q1 q2;rw[Nat.zero_add]at q3;exact H1.zn H2 (uu _) (r1.2 _ _ _ q4 q3)
  ·have:aq (fun b=>if b=k1.size then some (⟨a.block,a.off,c.size⟩:MT)else gz b) (.slice (some ⟨k1.size,0,some e.length⟩) len cap) (.slice (some ⟨a.block,a.off+0,none⟩) len cap):=
    .slice (m:=⟨a.block,a.off,c.size⟩) (by simp) NS NS (fun h=>h) (by simpa using L6)
   have ha:(⟨a.block,a.off+0,none⟩:Addr)=a:=by
    cases a;simp only[]at Sf;subst Sf;rfl
   rw[ha]at this;exact this
end Go.M
