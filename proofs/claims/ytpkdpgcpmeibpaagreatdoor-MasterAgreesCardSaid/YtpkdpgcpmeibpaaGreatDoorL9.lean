/-
  Part 9 of the library that the proof leans on.
-/
import Derived.Test.YtpkdpgcpmeibpaaGreatDoorL8
import Derived.IntWalk
import Derived.DataReads
namespace Go.M
open Go
section
variable {T E:Env} {X:Cx} {ρ:Gh} {F:Nat→Prop} {o:Ob} {c:Nat} {af:AF} {f:Fr} {h:ab} {p:Oper} {K:OK}
theorem jK.HB {canon:Option Value} (H:Mem X ρ F o c h) (R:jK c ρ F h o canon K) (hp:aZ E af p=canon):fv E X ρ F o c af h p K:=by
 obtain⟨v,x,h1,h2,h3⟩:=R;exact fv.pure H (hp.trans h1) h2 h3
theorem Sw (L:cD T E) (H:Mem X ρ F o c h) {t:TypeId} {x:TV} {xv:Value} (hw:VB T t x o c K) (hx:VR c ρ F h x xv)
 (hp:∀d,E.desc t=some d→aZ E af p=(match(generalizing:=false) d,xv with
  | .string,.string s=>some (goInt s.size)
  | .array n _,_=>some (goInt n)
  | .slice _,.slice _ n _=>some (goInt n)
  | .map _ _,.map none=>some (goInt 0)
  |_,_=>none))
 (hq:∀k e r,E.desc t=some (.map k e)→xv= .map (some r)→b7 E af p=some (.len r)):fv E X ρ F o c af h p K:=by
 unfold VB at hw;split at hw
 ·rename_i hd;split at hw
  ·have:=hx.dA.1;subst this;exact fv.pure H (hp _ (L.desc _ _ hd)) (.s rfl) hw
  ·exact hw.elim
 ·rename_i n e hd;exact fv.pure H ((hp _ (L.desc _ _ hd)).trans (by cases xv<;>rfl)) (.s rfl) hw
 ·rename_i e hd;have arr:∀{m:Nat} {y:TO},look o m=some y→A6 y=true→VR c ρ F h (.tk m) xv→K (.s (goInt (FJ y))) o c .pure→fv E X ρ F o c af h p K:=by
   intro m y hl hy hx hw;obtain⟨Sm,hO⟩:=H.ct hl;have:∃a k,xv= .slice a (FJ y) k:=by
    rcases hO.tk hy hx with⟨h0,_,rfl |⟨b,o',cs,_,_,_,_,rfl⟩⟩|⟨b,cap,_,_,rfl⟩
    ·rw[h0];exact⟨none,0,rfl⟩
    ·rw[h0];exact⟨_,0,rfl⟩
    ·exact⟨_,_,rfl⟩
   obtain⟨a,k,rfl⟩:=this;exact fv.pure H (hp _ (L.desc _ _ hd)) (.s rfl) hw
  split at hw
  ·cases hx with
   |bg hb=>exact fv.pure H (hp _ (L.desc _ _ hd)) (.s rfl) hw
  ·rename_i m;split at hw
   ·rename_i hl;exact arr hl rfl hx hw
   ·rename_i hl;exact arr hl rfl hx hw
   ·exact hw.elim
  ·cases hx with
   |nil h1=>subst h1;exact fv.pure H (hp _ (L.desc _ _ hd)) (.s rfl) hw
   |sl q1 q2 q3 q4=>subst q4;exact fv.pure H (hp _ (L.desc _ _ hd)) (.s rfl) hw
  ·rename_i m k;split at hw
   ·rename_i hl;obtain⟨UE,hK⟩:=hw;obtain⟨Sm,hO⟩:=H.ct hl;cases hx with
    |pv Hy lx ha h0=>
    have:∃a q,xv= .slice a k q:=by
     cases hO with
     |nil hb hz=>
      have RL:k=0:=by simpa using UE
      subst RL;rcases h0 _ hb with rfl |⟨b,o',cs,_,_,_,_,rfl⟩
      ·exact⟨none,0,rfl⟩
      ·exact⟨_,0,rfl⟩
     |arr hb hg hf ht eG kI cY pK iz hc hF=>
      obtain⟨cap,_,rfl⟩:=ha _ _ _ hb;exact⟨_,_,rfl⟩
    obtain⟨a,q,rfl⟩:=this;exact fv.pure H (hp _ (L.desc _ _ hd)) (.s rfl) hK
   ·exact hw.elim
  ·exact hw.elim
 ·rename_i k e hd;split at hw
  ·have:=hx.dA.1;subst this;exact fv.pure H (hp _ (L.desc _ _ hd)) (.s rfl) hw
  ·rename_i n;split at hw
   ·rename_i kn es hl;obtain⟨Sm,hO⟩:=H.ct hl;cases hO with
    |map hb hg hlen hc bR=>
     rename_i b clock ev;cases hx with
     |mp bV=>
      rw[hb]at bV;cases bV;have DF:ff h b=some (ev,clock):=by unfold ff;rw[hg]
      have hE:vB c ρ F h kn es ev:=⟨hlen,hc⟩;refine jM.HB (q:=.len b) (jM.same H (by simp[RQ.run,DF];rfl) (.s rfl) ?_ (.mC (.refl _) rfl hl (.inl hb) ⟨_,DF,hE.refl⟩)) (hp _ (L.desc _ _ hd)) (hq _ _ _ (L.desc _ _ hd) rfl);rw[←hlen];exact hw
   ·rename_i kn es hl;obtain⟨Sm,hO⟩:=H.ct hl;cases hO with
    |fW hb hg b6 hc bR=>
     rename_i Sq b clock ev;cases hx with
     |mp bV=>
      rw[hb]at bV;cases bV;have DF:ff h b=some (ev,clock):=by unfold ff;rw[hg]
      have hE:jh c ρ F h X.base kn Sq es ev:=hc;have hlen:es.length=ev.length:=by
       have key:∀{es:List (Value×TV)} {ev:List MapEntry} {S:Ft},jh c ρ F h X.base kn S es ev→es.length=ev.length:=by
        intro es ev S hE
        induction hE with
        |nil=>rfl
        |cons _ _ _ _ _ ih=>simp[ih]
       exact key hE
      refine jM.HB (q:=.len b) (jM.same H (by simp[RQ.run,DF];rfl) (.s rfl) ?_ (.mC (.refl _) rfl hl (.inl hb) ⟨_,DF,hE.refl fun e he t ht=>.inr (b6 e he t ht)⟩)) (hp _ (L.desc _ _ hd)) (hq _ _ _ (L.desc _ _ hd) rfl);rw[←hlen];exact hw
   ·exact hw.elim
  ·exact hw.elim
 ·exact hw.elim
theorem jz (L:cD T E) (N:nU T F h) (S:dN c ρ F h f af) {x:Operand} {l:List Operand} (lz:l.all (sH T)=true) (hm:x∈l):∃v,ev E af x=some v∧VR c ρ F h (np T f x) v:=qY L N S (List.all_eq_true.1 lz x hm)
theorem evO (L:cD T E) (N:nU T F h) (S:dN c ρ F h f af) {x:Option Operand} {l:List Operand} (lz:l.all (sH T)=true) (hm:∀y,x=some y→y∈l):∃v,pR E af x=some v∧R9 c ρ F h (RX T f x) v:=by
 cases x with
 |none=>exact⟨none,rfl,.inl ⟨rfl,rfl⟩⟩
 |some y=>
  obtain⟨v,h1,h2⟩:=qY (E:=E) L N S (List.all_eq_true.1 lz y (hm y rfl));exact⟨some v,by simp[pR,h1],.inr ⟨_,_,rfl,rfl,h2⟩⟩
theorem FV (L:cD T E) (H:Mem X ρ F o c h) {b:Builtin} {uh:Array Operand} {argTypes:Array TypeId} {args:List TV} {vs:List Value} {dst:Option Tmp} {ty:TypeId} {pos:String} {after:Array Edge} {guard:Option (Nat×Bool)}
 (hw:yF T b argTypes.toList args o c K) (hr:dP c ρ F h args vs) (he:Hs E af uh.toList=some vs):fv E X ρ F o c af h ⟨dst,.call ⟨.builtin b,uh,argTypes⟩,ty,pos,after,guard⟩ K:=by
 have hp:aZ E af ⟨dst,.call ⟨.builtin b,uh,argTypes⟩,ty,pos,after,guard⟩=qO E b argTypes.toList vs:=by simp only[aZ,he,Option.bind_some]
 have eP:bw E af ⟨dst,.call ⟨.builtin b,uh,argTypes⟩,ty,pos,after,guard⟩=none:=rfl;have Yi:dx E X.base af ⟨dst,.call ⟨.builtin b,uh,argTypes⟩,ty,pos,after,guard⟩ h=(tA E X.base h b argTypes.toList vs).bind fun r=>some (.val r.1,r.2):=by simp only[dx,he,Option.bind_some]
 have gA:b≠ .len→b7 E af ⟨dst,.call ⟨.builtin b,uh,argTypes⟩,ty,pos,after,guard⟩=none:=fun hb=>by
  cases b<;>first|rfl |exact absurd rfl hb
 unfold yF at hw;split at hw
 ·rename_i t ts x xs Bd;obtain⟨xv,m,rfl,h1,h2⟩:=hr.aO;refine Sw L H hw h1 (fun d hd=>?_) (fun k e r hd hx=>?_)
  ·rw[hp,Bd];simp only[qO,hd,Option.bind_some]
   try rfl
  ·subst hx;simp only[b7,Bd,he,Option.bind_some,hd]
 ·rename_i st xt fl l Bd;obtain⟨sv,m,rfl,h1,h2⟩:=hr.aO;obtain⟨xv,m',rfl,h3,h4⟩:=h2.aO;obtain rfl:=h4.bG;have hxv:=h3.dA.1;subst hxv;refine FU L H hw h1 (by rw[hp,Bd];rfl) (gA (by simp)) eP fun v h' hh=>?_;rw[Yi,Bd];show(match cX E X.base h st xt sv (.int .i64 l)with|some r=>some r|none=>kh E h st xt sv (.int .i64 l)).bind _=_;have xn:cX E X.base h st xt sv (.int .i64 l)=none:=by
   unfold cX;cases E.desc st with
   |none=>rfl
   |some sd=>cases E.desc xt with
    |none=>rfl
    |some xd=>
     cases sd<;>try rfl
     rename_i elem;simp only[Option.bind_some];cases E.size elem<;>try rfl
     cases E.bytes elem<;>try rfl
     cases E.zero elem<;>rfl
  rw[xn,hh];rfl
 ·rename_i st xt s x _ Bd;obtain⟨sv,m,rfl,h1,h2⟩:=hr.aO;obtain⟨xv,m',rfl,h3,h4⟩:=h2.aO;obtain rfl:=h4.bG;refine IL L H hw h1 h3 (by rw[hp,Bd];rfl) (gA (by simp)) eP fun v h' hh=>?_;rw[Yi,Bd];show(match cX E X.base h st xt sv xv with|some r=>some r|none=>kh E h st xt sv xv).bind _=_;rw[hh];rfl
 ·rename_i ts k x k' y;obtain⟨sv,m,rfl,h1,h2⟩:=hr.aO;obtain⟨xv,m',rfl,h3,h4⟩:=h2.aO;obtain rfl:=h4.bG;rw[h1.dA.1,h3.dA.1]at hp;exact fv.pure H (x:=.int k (if y>x then y else x)) (by rw[hp];rfl) (.s rfl) hw
 ·rename_i ts k x k' y;obtain⟨sv,m,rfl,h1,h2⟩:=hr.aO;obtain⟨xv,m',rfl,h3,h4⟩:=h2.aO;obtain rfl:=h4.bG;rw[h1.dA.1,h3.dA.1]at hp;exact fv.pure H (x:=.int k (if y<x then y else x)) (by rw[hp];rfl) (.s rfl) hw
 ·rename_i t ts fl Bd;obtain⟨sv,m,rfl,h1,h2⟩:=hr.aO;obtain rfl:=h2.bG;split at hw
  ·rename_i e hd;have:sv= .slice none 0 0:=by
    cases h1 with
    |nil=>rfl
    |sl q1 q2 q3=>omega
   subst this;refine fv.pure H (x:=goInt 0) ?_ (.s rfl) hw;rw[hp,Bd];simp only[qO,L.desc _ _ hd,Option.bind_some]
  ·exact hw.elim
 ·rename_i t ts m k Bd;obtain⟨mv,m1,rfl,h1,h2⟩:=hr.aO;obtain⟨kv,m',rfl,h3,h4⟩:=h2.aO;obtain rfl:=h4.bG;refine IG L H hw h1 h3 (by rw[hp,Bd];rfl) (gA (by simp)) eP ?_;rw[Yi,Bd];rfl
 ·rename_i t ts m i args Bd;obtain⟨xv,m1,rfl,h1,h2⟩:=hr.aO;split at hw
  ·rename_i elem hd;split at hw
   ·rename_i zv z es hz hl;split at hw
    ·rename_i zs j6;split at hw
     ·rename_i hc;refine IH L H hd hz hl j6 hc hw h1 (by rw[hp,Bd];rfl) (gA (by simp)) eP ?_;rw[Yi,Bd];rfl
     ·exact hw.elim
    ·exact hw.elim
   ·exact hw.elim
  ·exact hw.elim
 ·rename_i t ts n args Bd;obtain⟨mv,m1,rfl,h1,h2⟩:=hr.aO;split at hw
  ·rename_i d kn es hd hl;refine BP H hl (.inl ⟨_,rfl⟩) hw h1 (by rw[hp,Bd];rfl) (gA (by simp)) eP (by rw[L.desc _ _ hd];rfl) ?_ (t:=t);rw[Yi,Bd];rfl
  ·rename_i d kn es op hd hl;refine BP H hl (.inr ⟨_,_,rfl⟩) hw h1 (by rw[hp,Bd];rfl) (gA (by simp)) eP (by rw[L.desc _ _ hd];rfl) ?_ (t:=t);rw[Yi,Bd];rfl
  ·exact hw.elim
 ·exact hw.elim
theorem FW (s:ByteArray):(Fi s).length=s.size:=by simp[Fi]
theorem OT {c:Nat} {ρ:Gh} {F:Nat→Prop} {h:ab}:∀{ns:List Int} {vs:List Value},dP c ρ F h (Fj ns).flatten vs→vs=ns.map (Value.int .u8)
 |[],vs,H=>H.bG
 |n::ns,vs,H=>by
  obtain⟨v,oI,rfl,h1,h2⟩:=H.aO;rw[h1.dA.1,OT h2];rfl
theorem Kj:∀ns:List Int,Ny (ns.map (Value.int .u8))=some ns
 |[]=>rfl
 |n::ns=>by simp only[List.map_cons,Ny,Kj ns,Option.bind_some]
theorem FX (L:cD T E) (H:Mem X ρ F o c h) {s d:TypeId} {x:TV} {xv:Value} (hw:yI T s d x o c K) (hx:VR c ρ F h x xv)
 (hp:aZ E af p=rO E s d xv) (hq:b7 E af p=none) (eP:bw E af p=none) (he:dx E X.base af p h=(sg E X.base h s d xv).bind fun r=>some (.val r.1,r.2)):fv E X ρ F o c af h p K:=by
 unfold yI at hw;split at hw
 ·rename_i v;have:=hx.dA.1;subst this;split at hw
  ·rename_i str e hd;split at hw
   ·rename_i sd ed hs hed;split at hw
    ·rename_i hu;have Q3:aZ E af p=none:=by rw[hp];simp[rO,L.desc _ _ hs,L.desc _ _ hd]
     have E1:ER c ρ F h 1 (Fi str) (fI str):=by
      refine⟨by simp[Fi,fI],fun e he=>?_,fun e he t ht=>?_,fun i j e t v q1 q2 q3=>?_⟩
      ·simp only[Fi,List.mem_map]at he;obtain⟨b,_,rfl⟩:=he;rfl
      ·simp only[Fi,List.mem_map]at he;obtain⟨b,_,rfl⟩:=he;simp at ht;subst ht;rfl
      ·simp only[Fi,List.getElem?_map,Option.map_eq_some_iff]at q1;obtain⟨b,q1,rfl⟩:=q1;cases j with
       |succ j=>simp at q2
       |zero=>
        simp at q2;subst q2;simp only[fI,List.getElem?_map,Nat.mul_one,Nat.add_zero,q1,Option.map_some,Option.some.injEq]at q3;subst q3;exact .s rfl
     obtain⟨M2,k2⟩:=H.yK E1 om;refine fv.dE (x:=.slice (some ⟨h.size,0,some 1⟩) str.size (str.size+1)) (h':=h.push (.cells (fI str) h.size h.size 0)) H Q3 hq eP (by rw[he];simp[sg,L.desc _ _ hs,L.desc _ _ hd,L.desc _ _ hed,hu,bO,fresh]) ⟨M2,k2,by show h.size≤h.size+1;omega,fun _ hb=>hb,fun b cs hb hr=>(gh H.wf.le _ (H.Lq hb)).trans hr⟩ ?_ (fun m y hl hm=>?_) hw
     ·refine .tk om rfl (fun b z len hx=>?_) (fun z hx=>?_)
      ·rw[aP]at hx;cases hx;exact⟨str.size+1,by rw[FW];omega,by rw[FW]⟩
      ·rw[aP]at hx;cases hx
     ·have hmc:=H.lt hl;refine⟨⟨y,by rw[aS,if_neg (by simp only;omega)];exact hl⟩,by rw[bN _ _ om],fun b hb=>?_⟩;have:=H.y6 hl hb;exact⟨by rw[ab.au,if_neg om],fun cs hr=>by rw[gh H.wf.le _ this];exact hr⟩
    ·exact hw.elim
   ·exact hw.elim
  ·exact jK.HB H (ub hw fun x hx=>IB L hx) hp
 ·split at hw
  ·rename_i z es fT;split at hw
   ·rename_i e hd hs;split at hw
    ·rename_i ed hed;split at hw
     ·rename_i hc;simp only[Bool.and_eq_true,Bool.or_eq_true,beq_iff]at hc;obtain⟨hu,hz⟩:=hc;obtain⟨ns,rfl,hK⟩:=hw;obtain⟨hlen,_,_,lU⟩:=qm H fT (n:=1) (hz.imp id fun h=>⟨h,rfl⟩) (by simp) hx;obtain⟨a,cap,rfl⟩:∃a cap,xv= .slice a (Fj ns).length cap:=by
       unfold nG at hlen;split at hlen
       ·cases hlen;exact⟨_,_,rfl⟩
       ·exfalso;unfold Y8 at fT;split at fT
        ·cases hx with|tk _ h1=>simp[Ln]at h1
        ·cases hx
        ·cases fT
       ·cases hlen
      have Q3:aZ E af p=none:=by rw[hp];simp[rO,L.desc _ _ hs,L.desc _ _ hd]
      have Yj:sg E X.base h s d (.slice a (Fj ns).length cap)=some (.string (strOf ns),h):=by
       simp only[sg,L.desc _ _ hs,L.desc _ _ hd,L.desc _ _ hed,hu,Option.bind_some,bO,bZ,beq_iff];split
       ·rename_i h0;have:ns=[]:=by simpa[Fj]using h0
        subst this;rfl
       ·rename_i h0;rcases lU with h1|⟨new,h1,_,_,_,hV⟩
        ·rw[h1]at h0;simp at h0
        ·have e2:=OT (ns:=ns) (vs:=new) (by simpa[cZ]using hV);rw[h1,e2];simp only[Option.bind_some,Kj]
      exact fv.dE H Q3 hq eP (by rw[he,Yj];rfl) (.refl H) (.s rfl) (.refl _) hK
     ·exact hw.elim
    ·exact hw.elim
   ·exact hw.elim
  ·exact hw.elim
theorem BQ {base n len:Nat} {es:List (List TV)} (hlen:es.length=len):∀{ps:List (Nat×TV)} {pv:List (Nat×Value)} {op:List (Nat×List TV)} {cs:List Value},
 (ps.all fun p=>okV p.2&&Nat.beq (aI p.2).length n&&Nat.blt p.1 len)=true→EQ c ρ F h base n [] es op cs→R7 c ρ F h ps pv→
 ∃cv,kO (fun i=>some (i*n,n)) cs pv=some cv∧EQ c ρ F h base n [] es (VD ps op) cv
 |[],[],op,cs,_,hQ,_=>⟨cs,rfl,hQ⟩
 |[],_::_,_,_,_,_,h2=>h2.elim
 |_::_,[],_,_,_,_,h2=>h2.elim
 |q::ps,(k,x)::pv,op,cs,ha,hQ,h2=>by
  obtain⟨e0,hvx,h2⟩:=h2;obtain rfl:q.1=k:=e0;simp only[List.all_cons,Bool.and_eq_true,beq_iff,ba]at ha;obtain⟨⟨⟨Ke,hqn⟩,hql⟩,ha⟩:=ha;have uc:=jL hvx Ke;obtain⟨eP,j6⟩:=tY hQ.each hQ.iW;have OU:q.1<(cZ es op).length:=by omega
  obtain⟨row,gT⟩:∃e,(cZ es op)[q.1]? =some e:=⟨_,List.getElem?_eq_getElem OU⟩;have hrl:=j6 row (List.mem_of_getElem? gT);have hC:=hQ.cell;rw[←y8 gT]at hC;obtain⟨S1,S2,S3,v1,v2,v3,e0,e1,a1,a2,a3⟩:=lP j6 OU hC;have e2:v1.length=q.1*n:=by
   have h1:=a1.len;have:=(fy j6 gT).2;rw[Nat.add_mul]at this;rw[←h1,List.length_take];omega
  have e3:v2.length=n:=by rw[←a2.len];exact hrl
  have e4:dJ v2 0 x.cells.toList=some x.cells.toList:=by
   obtain⟨r,hr⟩:=mU (n:=0) (l:=v2) (xs:=x.cells.toList) (by rw[←uc.1];omega);rw[hr,lh hr];have:v2.length≤x.cells.toList.length:=by rw[←uc.1];omega
   rw[List.take_zero,List.drop_zero,List.nil_append,List.drop_eq_nil_of_le this,List.append_nil]
  have e5:=FP (v1:=v1) (v3:=v3) e4;rw[Nat.add_zero,e2,←e1]at e5;simp only[List.append_eq_nil_iff,List.nil_eq]at e0;obtain⟨rfl,rfl,rfl⟩:=e0;have hJ:=qW j6 OU a1 (da.lN (base:=base) uc) a3;have hQ1:EQ c ρ F h base n [] es ((q.1,aI q.2)::op) (v1++(x.cells.toList++v3)):=by
   refine⟨?_,hQ.each,hQ.cl,fun p hp=>?_,hJ⟩
   ·have:=(dG e5).2.1;rw[this];exact hQ.len
   ·rcases List.mem_cons.1 hp with rfl |hp
    ·exact⟨om,hqn⟩
    ·exact hQ.iW p hp
  obtain⟨cv,g1,g2⟩:=BQ hlen ha hQ1 h2;refine⟨cv,?_,g2⟩;have:x.cells.size=n:=by have:=uc.1;simp only[Array.length_toList]at this;omega
  simp[kO,this,e5,bO,g1]
theorem OV (L:cD T E) (NX:Iv E X) (H:Mem X ρ F o c h) (S:dN c ρ F h f af) (hw:Uu T (VC E) p.op f o c K):fv E X ρ F o c af h p K:=by
 obtain⟨dst,op,ty,pos,after,guard⟩:=p;have N:nU T F h:=(NX.now H).sub L;simp only at hw;unfold Uu at hw;split at hw
 ·exact hw.elim
 ·rename_i lz;cases op with
  |move x=>
   obtain⟨v,h1,h2⟩:=jz (E:=E) L N S lz (x:=x) (by simp[Op.operands]);obtain⟨hK,_⟩:=eK hw;exact fv.pure H (x:=v) h1 h2 hK
  |assign x=>
   obtain⟨v,h1,h2⟩:=jz (E:=E) L N S lz (x:=x) (by simp[Op.operands]);obtain⟨hK,_⟩:=eK hw;exact fv.pure H (x:=v) h1 h2 hK
  |pick q a b=>
   obtain⟨qv,h1,h2⟩:=jz (E:=E) L N S lz (x:=q) (by simp[Op.operands]);obtain⟨av,h3,h4⟩:=jz (E:=E) L N S lz (x:=a) (by simp[Op.operands]);obtain⟨bv,h5,h6⟩:=jz (E:=E) L N S lz (x:=b) (by simp[Op.operands]);simp only at hw;split at hw
   ·rename_i qb he;rw[he]at h2;have:=h2.dA.1;subst this;split at hw
    ·obtain⟨hK,_⟩:=eK hw;exact fv.pure H (x:=av) (by simp[aZ,h1,h3,Nv]) h4 hK
    ·obtain⟨hK,_⟩:=eK hw;exact fv.pure H (x:=bv) (by simp[aZ,h1,h5,Nv]) h6 hK
   ·exact hw.elim
  |alloc t=>
   simp only at hw;split at hw
   ·rename_i z hz;split at hw
    ·rename_i zs j6;obtain⟨kI,pq⟩:=L.zero _ _ hz;exact vD H (gG pq j6) rfl rfl (by simp[bw,kI]) hw
    ·exact hw.elim
   ·exact hw.elim
  |box t x=>
   obtain⟨v,h1,h2⟩:=jz (E:=E) L N S lz (x:=x) (by simp[Op.operands]);simp only at hw;obtain⟨hK,bH⟩:=eK hw;have eP:bw E af ⟨dst,.box t x,ty,pos,after,guard⟩=some (.cells v.cells.toList,.ptr):=by simp[bw,h1]
   split at hK
   ·exact hK.elim
   ·exact hK.elim
   ·exact hK.elim
   ·exact hK.elim
   ·rename_i cs he;have uc:=jL h2 (by rw[he];rfl);rw[he]at uc;exact vD H uc rfl rfl eP hK
   ·rename_i n1 n2 n4 n5 n3;have fG:okV (np T f x)=true:=by
     cases he:np T f x with
     |j=>exact absurd he n1
     |dk cs=>exact absurd he (n2 cs)
     |sv a b=>exact absurd he (n4 a b)
     |pv a b=>exact absurd he (n5 a b)
     |_=>rfl
    have uc:=jL h2 fG;have Yj:aI (np T f x)=[np T f x]:=by
     cases he:np T f x with
     |agg cs=>exact absurd he (n3 cs)
     |_=>rfl
    rw[Yj]at uc;exact vD H uc rfl rfl eP hK
  |build t ps=>
   obtain⟨pv,h1,h2⟩:=oW (E:=E) L N S (l:=ps.toList) (by simpa[Op.operands]using lz);exact jK.HB H (LG L hw h2) (by simp[aZ,h1])
  |buildSlice t len ps=>
   obtain⟨pv,h1,h2⟩:=oW (E:=E) L N S (l:=ps.toList) (by simpa[Op.operands]using lz);simp only at hw;unfold wD at hw;split at hw
   ·rename_i elem hd;split at hw
    ·rename_i n z hn hz;obtain⟨kI,pq⟩:=L.zero _ _ hz;split at hw
     ·rename_i zs hc j6;simp only[Bool.and_eq_true,beq_iff,aW,ba]at hc;obtain⟨⟨oy,u0⟩,X0⟩:=hc;split at hw
      ·rename_i es Q4 Rz;have sq:=gG (c:=c) (ρ:=ρ) (F:=F) (h:=h) pq j6;have Lu:zs.length=n:=by have:=sq.1;simp only[Array.length_toList]at this;omega
       obtain⟨F',cv,S',b1,b2,b3⟩:=BO H Rz (ER.replicate sq Lu Q4 len) h2;have UA:es.length=len:=by rw[b3];simp
       refine Kc H S' (cap:=len) b2 X0 om rfl rfl ?_ hw;simp only[bw,L.desc _ _ hd,Option.bind_some,h1,L.size _ _ hn,kI,u0,aW.2 oy,bO];rw[UA];simp[b1]
      ·rename_i Q4 Rz;split at hw
       ·rename_i cC;have sq:=gG (c:=c) (ρ:=ρ) (F:=F) (h:=h) pq j6;have Lu:zs.length=n:=by have:=sq.1;simp only[Array.length_toList]at this;omega
        have hE:=ER.replicate sq Lu Q4 len
        have hQ0:EQ c ρ F h X.base n [] (List.replicate len zs) [] (a6 z.cells.toList len):=
         ⟨hE.len,hE.each,fun e he t ht=>by
          have:=hE.fz e he t ht;unfold nP;split<;>first|rfl |exact this,by simp,da.lN (iL hE.len hE.each hE.cell)⟩
        obtain⟨cv,g1,hQ⟩:=BQ (by simp) cC hQ0 h2;obtain⟨M1,k1⟩:=H.Im hQ X0;refine fv.alloc H (.refl H) (md:=.cells cv) (hd:=.slice n len len) rfl rfl ?_ M1 k1 (.tk om rfl (fun b z' len' hx=>?_) (fun z' hx=>?_)) hw
        ·simp only[bw,L.desc _ _ hd,Option.bind_some,h1,L.size _ _ hn,kI,u0,aW.2 oy,bO];simp[g1]
        ·rw[aP]at hx;cases hx;exact⟨len,by simp,by simp[tw.val]⟩
        ·rw[aP]at hx;cases hx
       ·exact hw.elim
      ·exact hw.elim
     ·exact hw.elim
    ·exact hw.elim
   ·exact hw.elim
  |load t a=>
   obtain⟨av,h1,h2⟩:=jz (E:=E) L N S lz (x:=a) (by simp[Op.operands]);obtain⟨q,h3,h4⟩:=OB L H hw h2;exact h4.HB rfl (by simp only[b7,h1,Option.bind_some];exact h3)
  |store t a v=>
   obtain⟨av,h1,h2⟩:=jz (E:=E) L N S lz (x:=a) (by simp[Op.operands]);obtain⟨vv,h3,h4⟩:=jz (E:=E) L N S lz (x:=v) (by simp[Op.operands]);exact LK L H hw h2 h4 rfl rfl rfl (by simp only[dx,h1,h3,Option.bind_some];rfl)
  |nilCheck x=>
   obtain⟨v,h1,h2⟩:=jz (E:=E) L N S lz (x:=x) (by simp[Op.operands]);simp only at hw;split at hw
   ·rename_i n q he;rw[he]at h2;cases h2 with
    |ptr hb=>exact fv.pure H (by simp[aZ,h1,nH]) (.ptr hb) hw
   ·rename_i e q he;rw[he]at h2;cases h2 with
    |ep a1 a2 a3 a4 a5=>exact fv.pure H (by simp[aZ,h1,nH]) (.ep a1 a2 a3 a4 a5) hw
   ·rename_i g a b he;rw[he]at h2;cases h2 with
    |dc a1 a2 a3 a4=>exact fv.pure H (by simp[aZ,h1,nH]) (.dc a1 a2 a3 a4) hw
   ·exact hw.elim
  |binOp bop t x y t2=>
   obtain⟨av,h1,h2⟩:=jz (E:=E) L N S lz (x:=x) (by simp[Op.operands]);obtain⟨bv,h3,h4⟩:=jz (E:=E) L N S lz (x:=y) (by simp[Op.operands]);exact jK.HB H (R8 L H hw h2 h4) (by simp[aZ,h1,h3])
  |unOp uop t x=>
   obtain⟨v,h1,h2⟩:=jz (E:=E) L N S lz (x:=x) (by simp[Op.operands]);simp only at hw;split at hw
   ·rename_i w he;split at hw
    ·rename_i hs;rw[he]at h2;have:=h2.dA.1;subst this;exact jK.HB H (ub hw fun x hx=>hx) (by simp[aZ,h1,hs,bO])
    ·exact hw.elim
   ·exact hw.elim
  |convert s d x=>
   obtain⟨v,h1,h2⟩:=jz (E:=E) L N S lz (x:=x) (by simp[Op.operands]);exact FX L H hw h2 (by simp[aZ,h1]) rfl rfl (by simp[dx,h1])
  |makeInterface t x=>
   obtain⟨v,h1,h2⟩:=jz (E:=E) L N S lz (x:=x) (by simp[Op.operands]);simp only at hw;split at hw
   ·exact hw.elim
   ·exact hw.elim
   ·rename_i d hd n1;split at hw
    ·exact hw.elim
    ·refine fv.pure H (x:=.iface t v) ?_ (.oB h2) hw;simp only[aZ,L.desc _ _ n1,Option.bind_some,h1]
  |makeFunc fn first captured=>
   simp only at hw;split at hw
   ·rename_i g;have he:(first.toList.all (sH T)=true)∧(captured.toList.all (sH T)=true):=by
     simpa[Op.operands]using lz
    obtain⟨a,h1,h2⟩:=qh (E:=E) L N S he.1;obtain⟨b,h3,h4⟩:=qh (E:=E) L N S he.2;exact fv.pure H (x:=.func (.func g) a.toArray b.toArray) (by simp[aZ,h1,h3]) (.dc (by simpa using h2.1) (fun i t v q1 q2=>h2.2 i t v q1 (by simpa using q2)) (by simpa using h4.1) (fun i t v q1 q2=>h4.2 i t v q1 (by simpa using q2))) hw
   ·exact hw.elim
  |makeMap t r=>
   cases r with
   |some r=>exact hw.elim
   |none=>
    simp only at hw;split at hw
    ·split at hw
     ·split at hw
      ·exact Sj H _ rfl rfl rfl hw
      ·exact hw.elim
     ·exact hw.elim
    ·exact hw.elim
  |makeSlice t l k=>
   obtain⟨lv,h1,h2⟩:=jz (E:=E) L N S lz (x:=l) (by simp[Op.operands]);obtain⟨kv,h3,h4⟩:=jz (E:=E) L N S lz (x:=k) (by simp[Op.operands]);simp only at hw;unfold yG at hw;split at hw
   ·rename_i elem li ki hd hli hki;split at hw
    ·rename_i n bytes z hn Hw hz;obtain⟨kI,pq⟩:=L.zero _ _ hz;split at hw
     ·rename_i zs hc j6;simp only[Bool.and_eq_true,beq_iff,ba]at hc;obtain⟨hc,IK⟩:=hc;split at hw
      ·rename_i Q4;obtain⟨⟨b1,b2,b30⟩,hK⟩:=hw;have b3:(ki+1)*((bytes:Int)+1)≤1099511627776:=by
        have h1:(ki.toNat+1)*(bytes+1)≤1099511627776:=size_le om IK;have h2:ki=(ki.toNat:Int):=by omega
        rw[h2];have h3:=Int.ofNat_le.2 h1;rw[Int.natCast_mul]at h3;exact h3
       have sq:=gG (c:=c) (ρ:=ρ) (F:=F) (h:=h) pq j6;have Lu:zs.length=n:=by have:=sq.1;simp only[Array.length_toList]at this;omega
       have hE:=ER.replicate sq Lu Q4 li.toNat
       refine Kc H (.refl H) (cap:=bif Nat.beq li.toNat ki.toNat then li.toNat else li.toNat+1) hE hc.2 (by simp only[List.length_replicate,bZ];split<;>omega) rfl rfl ?_ hK;simp only[bw,L.desc _ _ hd,Option.bind_some,h1,h3,nW hli h2,nW hki h4,L.size _ _ hn,L.bytes _ _ Hw,kI,hc.1,bO];simp[b1,b2,b3]
      ·exact hw.elim
     ·exact hw.elim
    ·exact hw.elim
   ·exact hw.elim
  |slice t x lo hi mx=>
   obtain⟨xv,h1,h2⟩:=jz (E:=E) L N S lz (x:=x) (by simp[Op.operands]);obtain⟨yW,h3,h4⟩:=evO (E:=E) L N S lz (x:=lo) (fun y e=>by subst e;simp[Op.operands]);obtain⟨hiv,h5,h6⟩:=evO (E:=E) L N S lz (x:=hi) (fun y e=>by subst e;simp[Op.operands]);obtain⟨Q8,h7,h8⟩:=evO (E:=E) L N S lz (x:=mx) (fun y e=>by subst e;simp[Op.operands]);exact(LC L H hw h2 h4 h6 h8).HB H (by simp[aZ,h1,h3,h5,h7])
  |fieldAddr s x fd=>
   obtain⟨v,h1,h2⟩:=jz (E:=E) L N S lz (x:=x) (by simp[Op.operands]);exact jK.HB H (A7 L H hw h2) (by simp only[aZ,h1,Option.bind_some];rfl)
  |field t x fd=>
   obtain⟨v,h1,h2⟩:=jz (E:=E) L N S lz (x:=x) (by simp[Op.operands]);exact jK.HB H (LA L hw h2) (by simp only[aZ,h1,Option.bind_some];rfl)
  |indexAddr t x i=>
   obtain⟨v,h1,h2⟩:=jz (E:=E) L N S lz (x:=x) (by simp[Op.operands]);obtain⟨iv,h3,h4⟩:=jz (E:=E) L N S lz (x:=i) (by simp[Op.operands]);exact jK.HB H (A8 L H hw h2 h4) (by simp[aZ,h1,h3])
  |index t x i=>
   obtain⟨v,h1,h2⟩:=jz (E:=E) L N S lz (x:=x) (by simp[Op.operands]);obtain⟨iv,h3,h4⟩:=jz (E:=E) L N S lz (x:=i) (by simp[Op.operands]);exact jK.HB H (LB L hw h2 h4) (by simp[aZ,h1,h3])
  |lookup t x i ok=>
   obtain⟨v,h1,h2⟩:=jz (E:=E) L N S lz (x:=x) (by simp[Op.operands]);obtain⟨iv,h3,h4⟩:=jz (E:=E) L N S lz (x:=i) (by simp[Op.operands]);rcases ID L H hw h2 h4 with⟨rfl,R⟩|⟨r,rfl,q,hq,R⟩
   ·exact jK.HB H R (by simp only[aZ,h1,h3,Option.bind_some];cases E.desc t with|none=>rfl |some d=>cases d<;>rfl)
   ·refine R.HB ?_ (by simp only[b7,h1,h3,Option.bind_some];exact hq);simp only[aZ,h1,h3,Option.bind_some];cases E.desc t with
    |none=>rfl
    |some d=>cases d<;>rfl
  |mapUpdate t m k v=>
   obtain⟨mv,h1,h2⟩:=jz (E:=E) L N S lz (x:=m) (by simp[Op.operands]);obtain⟨kv,h3,h4⟩:=jz (E:=E) L N S lz (x:=k) (by simp[Op.operands]);obtain⟨vv,h5,h6⟩:=jz (E:=E) L N S lz (x:=v) (by simp[Op.operands]);exact Bb L H hw h2 h4 h6 rfl rfl rfl (by simp only[dx,h1,h3,h5,Option.bind_some];rfl)
  |extract t i=>
   obtain⟨v,h1,h2⟩:=jz (E:=E) L N S lz (x:=t) (by simp[Op.operands]);simp only at hw;split at hw
   ·rename_i vs he;rw[he]at h2;obtain⟨a,rfl,h3⟩:=h2.Dq;split at hw
    ·rename_i w hi;obtain⟨hK,_⟩:=eK hw;have aN:=(List.getElem?_eq_some_iff.1 hi).1;have mK:i<a.toList.length:=by rw[←h3.1];exact aN
     obtain⟨x,hx⟩:∃x,a.toList[i]? =some x:=⟨_,List.getElem?_eq_getElem mK⟩;exact fv.pure H (x:=x) (by simp only[aZ,h1,Option.bind_some];exact hx) (h3.2 i w x hi hx) hK
    ·exact hw.elim
   ·exact hw.elim
  |call q=>
   obtain⟨callee,uh,argTypes⟩:=q;simp only at hw;split at hw
   ·rename_i b;have acY:uh.toList.all (sH T)=true:=by simpa[Op.operands,Call.operands]using lz
    obtain⟨vs,h1,h2⟩:=qh (E:=E) L N S acY;exact FV L H hw h2 h1
   ·rename_i g;have he:sH T g=true∧uh.toList.all (sH T)=true:=by simpa[Op.operands,Call.operands]using lz
    obtain⟨gv,h1,h2⟩:=qY (E:=E) L N S he.1;obtain⟨vs,h3,h4⟩:=qh (E:=E) L N S he.2;split at hw
    ·rename_i g' a b hg;rw[hg]at h2;cases h2 with
     |dc hs ha ht hk=>
      rename_i a' k';have yf:dP c ρ F h a a'.toList:=⟨by simpa using hs,fun i t v q1 q2=>ha i t v q1 (by simpa using q2)⟩;have kH:dP c ρ F h b k'.toList:=⟨by simpa using ht,fun i t v q1 q2=>hk i t v q1 (by simpa using q2)⟩;refine OQ NX H (L.still g') hw ((yf.append h4).append kH) rfl rfl rfl ?_;simp only[dx,h3,h1,Option.bind_some]
    ·exact hw.elim
   ·exact hw.elim
  |_=>exact hw.elim
end
def DJ (h:ab) (b:Nat):Prop:=(∃cs,h.rd b=some cs)∨∃ob,h.get b=some ob∧∀cs f t th,ob≠ .cells cs f t th
theorem Mem.live {X:Cx} {ρ:Gh} {F:Nat→Prop} {o:Ob} {c:Nat} {h:ab} (H:Mem X ρ F o c h) {m:Nat} {y:TO} {b:Nat} (hl:look o m=some y) (hb:BJ ρ m b):DJ h b:=by
 obtain⟨Sm,hO⟩:=H.ct hl;cases hO with
 |cells h1 hg ht hc=>
  rcases hb with hb|⟨z,l,hb⟩<;>rw[h1]at hb<;>cases hb
  exact .inl (⟨_,eW (cG hg hg) ht (by unfold ab.cellsOf;rw[hg])⟩)
 |map h1 hg=>rcases hb with hb|⟨z,l,hb⟩<;>rw[h1]at hb<;>cases hb;exact .inr ⟨_,hg,by simp⟩
 |fW h1 hg=>rcases hb with hb|⟨z,l,hb⟩<;>rw[h1]at hb<;>cases hb;exact .inr ⟨_,hg,by simp⟩
 |eQ h1 hg=>rcases hb with hb|⟨z,l,hb⟩<;>rw[h1]at hb<;>cases hb;exact .inr ⟨_,hg,by simp⟩
 |nil h1=>rcases hb with hb|⟨z',l,hb⟩<;>rw[h1]at hb<;>cases hb
 |ia h1=>rcases hb with hb|⟨z',l,hb⟩<;>rw[h1]at hb<;>cases hb
 |arr h1 hg hf ht=>rcases hb with hb|⟨z',l,hb⟩<;>rw[h1]at hb<;>cases hb;exact .inl (⟨_,eW hf ht (by unfold ab.cellsOf;rw[hg])⟩)
 |bB h1 hg hf ht=>rcases hb with hb|⟨z',l,hb⟩<;>rw[h1]at hb<;>cases hb;exact .inl (⟨_,eW hf ht (by unfold ab.cellsOf;rw[hg])⟩)
theorem zd:∀{o:Ob} {m:Nat},m∈Yb o→∃y,look o m=some y
 |[],m,h=>by simp[Yb]at h
 |p::o,m,h=>by
  rw[aS];by_cases e:p.1=m
  ·exact⟨p.2,by simp[e]⟩
  ·rw[if_neg e];simp only[Yb,List.mem_cons]at h;rcases h with h|h
   ·exact absurd h.symm e
   ·exact zd h
def Sx:TV→Bool
 | .mp _=>true
 | .ptr _ _=>true
 |_=>false
def oZ (ρ:Gh) (o:Ob) (h:ab):Prop:=∀n cs p v,look o n=some (.cells cs)→cs[p]? =some v→Sx v=true→∃b x,ρ n=some (.dw b)∧an h b p 1=some [x]∧lQ ρ v x
theorem Mem.DK {X:Cx} {ρ:Gh} {F:Nat→Prop} {o:Ob} {c:Nat} {h:ab} (H:Mem X ρ F o c h):oZ ρ o h:=by
 intro n cs p v hl hp hv;obtain⟨Sm,hO⟩:=H.ct hl;cases hO with
 |cells hb hg ht hc=>
  rename_i S b bd cv;obtain⟨S1,S2,S3,_,a1,a2,a3⟩:=hc.part p 1;have aN:=(List.getElem?_eq_some_iff.1 hp).1;have e1:(cs.drop p).take 1=[v]:=by
   rw[List.drop_eq_getElem_cons aN,List.take_succ_cons,List.take_zero];rw[(List.getElem?_eq_some_iff.1 hp).2]
  rw[e1]at a2;have hV:=a2.Uv (fun t v hv hf=>hv.dC hf) (by cases v<;>first|rfl |simp[Sx]at hv);obtain⟨x,m1,e2,hx,HH⟩:=hV.1.aO;obtain rfl:=HH.bG;have hlen:=hc.len;have gA:=eW (cG hg hg) ht (aT hg);refine⟨b,x,hb,?_,?_⟩
  ·unfold an;rw[gA];simp only[Option.bind_some,bo];exact⟨by rw[List.length_drop];omega,e2.symm⟩
  ·cases v with
   |mp k=>cases hx with|mp h1=>exact .inl ⟨_,_,rfl,h1,rfl⟩
   |ptr k q=>cases hx with|ptr h1=>exact .inr ⟨_,_,_,rfl,h1,rfl⟩
   |_=>simp[Sx]at hv
inductive vF (oF:Ob):Gh→(Nat→Prop)→Ob→ab→List VN→List eD→Prop
 |nil {ρ:Gh} {F:Nat→Prop} {h:ab} (b6:oZ ρ oF h):vF oF ρ F oF h [] []
 |cons {ρ ρ':Gh} {F F':Nat→Prop} {o o':Ob} {h h':ab} {l:VL} {e:eD} {ls:List VN} {es:List eD} (hl:gi ρ F o h ρ' o' h' l e) (hw:Wf h) (hs:h.size≤h'.size) (hF:∀b,F b→F' b) (dn:∀b cs,F b→h.rd b=some cs→h'.rd b=some cs)
  (Sy:∀m y b,look o m=some y→BJ ρ m b→DJ h b) (mV:∀k b,ρ k=some (.dw b)→ρ' k=some (.dw b)) (b6:oZ ρ o h) (hr:vF oF ρ' F' o' h' ls es):vF oF ρ F o h ((l,o)::ls) (e::es)
theorem vF.next {oF:Ob} {ρ:Gh} {F:Nat→Prop} {o:Ob} {h:ab} {ls:List VN} {es:List eD} (H:vF oF ρ F o h ls es):J1 oF ls=o∧oZ ρ o h:=by
 cases H with
 |nil b6=>exact⟨rfl,b6⟩
 |cons _ _ _ _ _ _ _ b6 _=>exact⟨rfl,b6⟩
theorem xT {h:ab} (W:Wf h) (q:RQ):sj h q=true:=by
 unfold sj;rw[bZ];split
 ·rename_i hb;split
  ·rename_i f t th hg;rw[ba]at hb ⊢;have:=W.le _ _ _ _ _ hg;omega
  ·rfl
 ·rfl
theorem ze {h:ab} (W:Wf h) {q:RQ} (hn:mS q h):q.dw<h.size:=by
 cases q with
 |cells a b o n=>
  obtain⟨l,h1,_⟩:=hn;unfold an at h1;simp only[Option.bind_eq_some_iff]at h1;obtain⟨cs,h2,_⟩:=h1;obtain⟨f,t,th,hg⟩:=Ds h2;exact W.lt hg
 |look r kd k z ok=>
  obtain⟨m,h1,_⟩:=hn;unfold ff at h1;split at h1
  ·rename_i hg;exact W.lt hg
  ·cases h1
 |len r=>
  obtain⟨m,h1,_⟩:=hn;unfold ff at h1;split at h1
  ·rename_i hg;exact W.lt hg
  ·cases h1
theorem jN {h h':ab} {q:RQ} (hn:mS q h) (hg:(∃a b o n,q= .cells a b o n)∨h'.get q.dw=h.get q.dw) (hr:∀cs,h.rd q.dw=some cs→h'.rd q.dw=some cs):mS q h'∧fX h h' q=true:=by
 cases q with
 |cells a b o n=>
  obtain⟨l,h1,h2⟩:=hn;have h3:an h' b o n=some l:=by
   unfold an at h1 ⊢;simp only[Option.bind_eq_some_iff]at h1 ⊢;obtain⟨cs,h4,h5⟩:=h1;exact⟨cs,hr cs h4,h5⟩
  refine⟨⟨l,h3,h2⟩,?_⟩;unfold fX;rw[Bool.or_eq_true];left;unfold mM;rw[bZ];split
  ·simp only[h1,h3,h2]
  ·rfl
 |look r kd k z ok=>
  obtain⟨m,h1,h2⟩:=hn;have mF:h'.get r=h.get r:=by
   rcases hg with⟨a,b,o,n,e⟩|hg
   ·cases e
   ·exact hg
  have h3:ff h' r=some m:=by unfold ff at h1 ⊢;rw[mF];exact h1
  refine⟨⟨m,h3,h2⟩,?_⟩;unfold fX;rw[Bool.or_eq_true];left;unfold mM;rw[bZ];split
  ·simp only[h1,h3,h2]
  ·rfl
 |len r=>
  obtain⟨m,h1,h2⟩:=hn;have mF:h'.get r=h.get r:=by
   rcases hg with⟨a,b,o,n,e⟩|hg
   ·cases e
   ·exact hg
  have h3:ff h' r=some m:=by unfold ff at h1 ⊢;rw[mF];exact h1
  refine⟨⟨m,h3,h2⟩,?_⟩;unfold fX;rw[Bool.or_eq_true];left;unfold mM;rw[bZ];split
  ·simp only[h1,h3,h2]
  ·rfl
theorem iM (h:ab) (q:RQ):fX h h q=true:=by
 unfold fX;rw[Bool.or_eq_true];exact .inr (decide_eq_true (inst:=Classical.propDecidable _) rfl)
section
variable {bs:List Nat} {i:Nat} {oF:Ob}
theorem ui:∀{ls:List VN} {j:Nat},gd bs oF j ls=true→∀l∈ls,l.1≠ .bad
 |[],_,_,l,hl=>by simp at hl
 |x::ls,j,hd,l,hl=>by
  have key:gd bs oF (j+1) ls=true∧x.1≠ .bad:=by
   obtain⟨x,nm⟩:=x;cases x<;>simp only[gd,Bool.and_eq_true]at hd
   ·exact⟨hd,by simp⟩
   ·exact⟨hd,by simp⟩
   ·exact⟨hd,by simp⟩
   ·exact⟨hd.2,by simp⟩
   ·exact⟨hd.2,by simp⟩
   ·exact⟨hd.2,by simp⟩
   ·exact⟨hd.2,by simp⟩
   ·exact⟨hd.2,by simp⟩
   ·cases hd
  rcases List.mem_cons.1 hl with rfl |h1
  ·exact key.2
  ·exact ui key.1 l h1
theorem UF {q:RQ} (hc:∃a b o n,q= .cells a b o n) {rP:ab}:∀{ls:List VN} {es:List eD} {ρ:Gh} {F:Nat→Prop} {o:Ob} {h:ab} {j:Nat},vF oF ρ F o h ls es→(∀l∈ls,l.1≠ .bad)→F q.dw→mS q h→cI bs i (.rd q rP) j es=true
 |_,_,ρ,F,_,h,j,.nil _,_,_,_=>rfl
 |_,_,ρ,F,o,h,j,.cons (h':=h') (l:=l) (e:=e) hl hw hs hF dn Sy mV b6 hr,pN,ZH,hn=>by
  obtain⟨k1,k2⟩:=jN (h':=h') hn (.inl hc) (fun cs=>dn _ cs ZH);have ih:=UF hc (rP:=rP) (j:=j+1) hr (fun l hl=>pN l (List.mem_cons_of_mem _ hl)) (hF _ ZH) k1;simp only[cI,Bool.and_eq_true];refine⟨?_,ih⟩;cases hl with
  |pure=>rfl
  |alloc=>exact xT hw q
  |JV=>rfl
  |mC=>rfl
  |A4=>rfl
  |dE=>simp[bh,k2]
  |pG hr hh=>subst hh;simp[bh,iM]
  |pH=>simp[bh,k2]
  |bad=>exact absurd rfl (pN _ List.mem_cons_self)
theorem qn {q:RQ} {n:Nat} {rP:ab}:∀{ls:List VN} {es:List eD} {ρ:Gh} {F:Nat→Prop} {o:Ob} {h:ab} {j:Nat} {eI:Bool},vF oF ρ F o h ls es→(∀l∈ls,l.1≠ .bad)→qe bs i n j ls eI=true→
 (eI=false→(∃y,look o n=some y)∧BJ ρ n q.dw∧mS q h)→cI bs i (.rd q rP) j es=true
 |_,_,ρ,F,_,h,j,eI,.nil _,_,_,_=>rfl
 |_,_,ρ,F,o,h,j,eI,.cons (ρ':=ρ') (o':=o') (h':=h') (l:=l) (e:=e) (ls:=ls) hl hw hs hF dn Sy mV b6 hr,pN,hp,ht=>by
  have db:∀l∈ls,l.1≠ .bad:=fun l hl=>pN l (List.mem_cons_of_mem _ hl)
  -- an operation that leaves the object alone
  have quiet:∀ns,Raw ρ o h ρ' o' h' ns→n∉ns→eI=false→((∃y,look o' n=some y)∧BJ ρ' n q.dw∧mS q h')∧fX h h' q=true:=by
   intro ns bK CU hd;obtain⟨⟨y,hy⟩,EI,hn⟩:=ht hd;obtain⟨⟨y',r1⟩,r2,r3⟩:=bK n y hy CU;obtain⟨r4,r5⟩:=r3 _ EI;obtain⟨k1,k2⟩:=jN hn (.inr r4) r5;exact⟨⟨⟨y',r1⟩,by unfold BJ at EI ⊢;rw[r2];exact EI,k1⟩,k2⟩
  simp only[cI,Bool.and_eq_true];cases hl with
  |pure bK=>exact⟨rfl,qn hr db hp fun hd=>(quiet _ bK (by simp) hd).1⟩
  |alloc bK=>exact⟨xT hw q,qn hr db hp fun hd=>(quiet _ bK (by simp) hd).1⟩
  |JV bK=>exact⟨rfl,qn hr db hp fun hd=>(quiet _ bK (by simp) hd).1⟩
  |mC bK=>exact⟨rfl,qn hr db hp fun hd=>(quiet _ bK (by simp) hd).1⟩
  |A4 bK=>exact⟨rfl,qn hr db hp fun hd=>(quiet _ bK (by simp) hd).1⟩
  |dE bK=>
   rename_i ns;simp only[qe]at hp;split at hp
   ·rename_i hc;simp only[Bool.and_eq_true]at hp;exact⟨by simp[bh,hp.1],qn hr db hp.2 fun hd=>by cases hd⟩
   ·rename_i hc;have hd:eI=false:=by cases eI<;>simp_all
    have CU:n∉ns:=by subst hd;simpa using hc
    obtain⟨q1,q2⟩:=quiet _ bK CU hd;exact⟨by simp[bh,q2],qn hr db hp fun _=>q1⟩
  |pG bK hh=>
   rename_i ns;subst hh;simp only[qe]at hp;refine⟨by simp[bh,iM],qn hr db hp fun hd=>?_⟩;simp only[Bool.or_eq_false_iff]at hd;exact(quiet _ bK (by simpa using hd.2) hd.1).1
  |pH bK=>
   simp only[qe]at hp;split at hp
   ·simp only[Bool.and_eq_true]at hp;exact⟨by simp[bh,hp.1],qn hr db hp.2 fun hd=>by cases hd⟩
   ·obtain⟨q1,q2⟩:=quiet _ bK (by simp) rfl;exact⟨by simp[bh,q2],qn hr db hp fun _=>q1⟩
  |bad=>exact absurd rfl (pN _ List.mem_cons_self)
theorem lQ.bA {ρ ρ':Gh} {v:TV} {x:Value} (H:lQ ρ v x) (hk:∀k b,ρ k=some (.dw b)→ρ' k=some (.dw b)):lQ ρ' v x:=by
 rcases H with⟨k,b,h1,h2,h3⟩|⟨k,q,b,h1,h2,h3⟩
 ·exact .inl ⟨k,b,h1,hk _ _ h2,h3⟩
 ·exact .inr ⟨k,q,b,h1,hk _ _ h2,h3⟩
theorem lQ.uniq {ρ:Gh} {v:TV} {x y:Value} (H:lQ ρ v x) (K:lQ ρ v y):x=y:=by
 rcases H with⟨k,b,rfl,h2,rfl⟩|⟨k,q,b,rfl,h2,rfl⟩<;>rcases K with⟨k',b',e,k2,rfl⟩|⟨k',q',b',e,k2,rfl⟩<;>cases e<;>rw[h2]at k2<;>cases k2<;>rfl
theorem lQ.EB {ρ:Gh} {v:TV} {x:Value} (H:lQ ρ v x):kY [x] [x]=true∧Sx v=true:=by
 rcases H with⟨k,b,rfl,h2,rfl⟩|⟨k,q,b,rfl,h2,rfl⟩<;>exact⟨by simp[kY,kX],rfl⟩
theorem BR {v w:TV} (h:Dp v w=true):w=v:=by
 cases v<;>cases w<;>simp[Dp]at h
 ·obtain⟨rfl,rfl⟩:=h;rfl
 ·subst h;rfl
theorem jO {n p b:Nat} {v:TV} {x:Value} {rP:ab}:∀{ls:List VN} {es:List eD} {ρ:Gh} {F:Nat→Prop} {o:Ob} {h:ab} {j:Nat} {eI:Bool},vF oF ρ F o h ls es→(∀l∈ls,l.1≠ .bad)→nR bs i n p v oF j ls eI=true→
 (eI=false→(∃y,look o n=some y)∧ρ n=some (.dw b)∧an h b p 1=some [x]∧lQ ρ v x)→cI bs i (.rd (.cells false b p 1) rP) j es=true
 |_,_,ρ,F,_,h,j,eI,.nil _,_,_,_=>rfl
 |_,_,ρ,F,o,h,j,eI,.cons (ρ':=ρ') (o':=o') (h':=h') (l:=l) (e:=e) (ls:=ls) hl hw hs hF dn Sy mV b6 hr,pN,hp,ht=>by
  have db:∀l∈ls,l.1≠ .bad:=fun l hl=>pN l (List.mem_cons_of_mem _ hl);have same:∀{h1:ab},eI=false→an h1 b p 1=some [x]→fX h h1 (.cells false b p 1)=true:=by
   intro h1 hd h2;obtain⟨_,_,h3,h4⟩:=ht hd;unfold fX;rw[Bool.or_eq_true];left;unfold mM;rw[bZ];split
   ·simp only[h3,h2,h4.EB.1]
   ·rfl
  have quiet:∀ns,Raw ρ o h ρ' o' h' ns→n∉ns→eI=false→(∃y,look o' n=some y)∧ρ' n=some (.dw b)∧an h' b p 1=some [x]∧lQ ρ' v x:=by
   intro ns bK CU hd;obtain⟨⟨y,hy⟩,hb,gA,hx⟩:=ht hd;obtain⟨⟨y',r1⟩,r2,r3⟩:=bK n y hy CU;obtain⟨r4,r5⟩:=r3 _ (.inl hb);refine⟨⟨y',r1⟩,mV _ _ hb,?_,hx.bA mV⟩;unfold an at gA ⊢;simp only[Option.bind_eq_some_iff]at gA ⊢;obtain⟨cs,h4,h5⟩:=gA;exact⟨cs,r5 cs h4,h5⟩
  simp only[cI,Bool.and_eq_true];cases hl with
  |pure bK=>exact⟨rfl,jO hr db hp fun hd=>quiet _ bK (by simp) hd⟩
  |alloc bK=>exact⟨xT hw _,jO hr db hp fun hd=>quiet _ bK (by simp) hd⟩
  |JV bK=>exact⟨rfl,jO hr db hp fun hd=>quiet _ bK (by simp) hd⟩
  |mC bK=>exact⟨rfl,jO hr db hp fun hd=>quiet _ bK (by simp) hd⟩
  |A4 bK=>exact⟨rfl,jO hr db hp fun hd=>quiet _ bK (by simp) hd⟩
  |dE bK=>
   rename_i ns;simp only[nR]at hp;split at hp
   ·simp only[Bool.and_eq_true]at hp;exact⟨by simp[bh,hp.1],jO (x:=x) hr db hp.2 fun hd=>by cases hd⟩
   ·split at hp
    ·rename_i hc;have CU:n∉ns:=by simpa using hc
     have q1:=quiet _ bK CU rfl;exact⟨by simp[bh,same rfl q1.2.2.1],jO hr db hp fun _=>q1⟩
    ·split at hp
     ·rename_i EJ;obtain⟨e1,e2⟩:=hr.next;rw[e1]at EJ;unfold qf at EJ;split at EJ
      ·rename_i cs CV;split at EJ
       ·rename_i w FT;obtain rfl:=BR EJ;obtain⟨_,hb,_,hx⟩:=ht rfl;obtain⟨b',x',k1,k2,k3⟩:=e2 n cs p _ CV FT hx.EB.2;rw[mV _ _ hb]at k1;cases k1;obtain rfl:=(hx.bA mV).uniq k3;exact⟨by simp[bh,same rfl k2],jO hr db hp fun _=>⟨⟨_,CV⟩,mV _ _ hb,k2,k3⟩⟩
       ·cases EJ
      ·cases EJ
     ·simp only[Bool.and_eq_true]at hp;exact⟨by simp[bh,hp.1],jO (x:=x) hr db hp.2 fun hd=>by cases hd⟩
  |pG bK hh=>
   rename_i ns;subst hh;simp only[nR]at hp;refine⟨by simp[bh,iM],jO (x:=x) hr db hp fun hd=>?_⟩;simp only[Bool.or_eq_false_iff]at hd;exact quiet _ bK (by simpa using hd.2) hd.1
  |pH bK=>
   simp only[nR]at hp;split at hp
   ·simp only[Bool.and_eq_true]at hp;exact⟨by simp[bh,hp.1],jO (x:=x) hr db hp.2 fun hd=>by cases hd⟩
   ·have q1:=quiet _ bK (by simp) rfl;exact⟨by simp[bh,same rfl q1.2.2.1],jO hr db hp fun _=>q1⟩
  |bad=>exact absurd rfl (pN _ List.mem_cons_self)
def zg (ρ:Gh) (ob oa:Ob) (g g':ab):Prop:=∀m p v,qf ob m p v=true→qf oa m p v=true→∃b x,ρ m=some (.dw b)∧an g b p 1=some [x]∧an g' b p 1=some [x]∧lQ ρ v x
theorem zg.bA {ρ ρ':Gh} {ob oa:Ob} {g g':ab} (H:zg ρ ob oa g g') (mV:∀k b,ρ k=some (.dw b)→ρ' k=some (.dw b)):zg ρ' ob oa g g':=by
 intro m p v h1 h2;obtain⟨b,x,k1,k2,k3,k4⟩:=H m p v h1 h2;exact⟨b,x,mV _ _ k1,k2,k3,k4.bA mV⟩
theorem zh {ρ:Gh} {o:Ob} {h:ab} {m p:Nat} {v:TV} (H:oZ ρ o h) (hc:qf o m p v=true):∃b x,ρ m=some (.dw b)∧an h b p 1=some [x]∧lQ ρ v x:=by
 unfold qf at hc;split at hc
 ·rename_i cs CV;split at hc
  ·rename_i w FT;obtain rfl:=BR hc;exact H m cs p _ CV FT (by cases w<;>first|rfl |simp[Dp]at hc)
  ·cases hc
 ·cases hc
theorem OW {ρ ρ':Gh} {ob oa:Ob} {g g':ab} (H:oZ ρ ob g) (H':oZ ρ' oa g') (mV:∀k b,ρ k=some (.dw b)→ρ' k=some (.dw b)):zg ρ' ob oa g g':=by
 intro m p v h1 h2;obtain⟨b,x,k1,k2,k3⟩:=zh H h1;obtain⟨b',x',l1,l2,l3⟩:=zh H' h2;rw[mV _ _ k1]at l1;cases l1;obtain rfl:=(k3.bA mV).uniq l3;exact⟨b,x,mV _ _ k1,k2,l2,l3⟩
theorem kc {g g':ab} {nm:List Nat} {ob oa:Ob}:∀{ls:List VN} {es:List eD} {ρ:Gh} {F:Nat→Prop} {o:Ob} {h:ab} {yJ:List Nat} {j:Nat},vF oF ρ F o h ls es→(∀l∈ls,l.1≠ .bad)→kS bs i nm ob oa yJ j ls=true→zg ρ ob oa g g'→
 (∀m∈nm,m∉yJ→(∃y,look o m=some y)∧∀b,BJ ρ m b→DJ g b∧g'.get b=g.get b∧(∀cs,g.rd b=some cs→g'.rd b=some cs)∧h.get b=g.get b∧(∀cs,g.rd b=some cs→h.rd b=some cs))→cI bs i (.dE g g') j es=true
 |_,_,ρ,F,_,h,yJ,j,.nil _,_,_,_,_=>rfl
 |_,_,ρ,F,o,h,yJ,j,.cons (ρ':=ρ') (o':=o') (h':=h') (l:=l) (e:=e) (ls:=ls) hl hw hs hF dn Sy mV b6 hr,pN,hp,hB,ht=>by
  have UG:=hB.bA mV;have db:∀l∈ls,l.1≠ .bad:=fun l hl=>pN l (List.mem_cons_of_mem _ hl);have next:∀(ms V5:List Nat),Raw ρ o h ρ' o' h' ms→(∀m,m∉V5→m∉yJ∧m∉ms)→∀m∈nm,m∉V5→(∃y,look o' m=some y)∧∀b,BJ ρ' m b→DJ g b∧g'.get b=g.get b∧(∀cs,g.rd b=some cs→g'.rd b=some cs)∧h'.get b=g.get b∧(∀cs,g.rd b=some cs→h'.rd b=some cs):=by
   intro ms V5 bK gR m hm Sz;obtain⟨q1,q2⟩:=gR m Sz;obtain⟨⟨y,hy⟩,hb⟩:=ht m hm q1;obtain⟨⟨y',r1⟩,r2,r3⟩:=bK m y hy q2;refine⟨⟨y',r1⟩,fun b LP=>?_⟩;have ZI:BJ ρ m b:=by unfold BJ at LP ⊢;rw[←r2];exact LP
   obtain⟨a1,a2,a3,a4,a5⟩:=hb b ZI;obtain⟨b1,b2⟩:=r3 b ZI;exact⟨a1,a2,a3,b1.trans a4,fun cs tj=>b2 cs (a5 cs tj)⟩
  simp only[cI,Bool.and_eq_true];cases hl with
  |pure bK=>exact⟨rfl,kc hr db hp UG (next _ _ bK fun m hm=>⟨hm,by simp⟩)⟩
  |alloc bK=>exact⟨rfl,kc hr db hp UG (next _ _ bK fun m hm=>⟨hm,by simp⟩)⟩
  |JV bK=>simp only[kS,Bool.and_eq_true]at hp;exact⟨by simp[bh,hp.1],kc hr db hp.2 UG (next _ _ bK fun m hm=>⟨hm,by simp⟩)⟩
  |mC bK hh hy hb hn=>
   rename_i q m y;simp only[kS,Bool.and_eq_true,Bool.or_eq_true]at hp;refine⟨?_,kc hr db hp.2 UG (next _ _ bK fun m hm=>⟨hm,by simp⟩)⟩;rcases hp.1 with ho|ho
   ·simp[bh,ho]
   ·simp only[Bool.not_eq_true']at ho;have hm:m∈nm:=by simpa using ho.1
    have Sz:m∉yJ:=by simpa using ho.2
    obtain⟨a1,a2,a3,a4,a5⟩:=(ht m hm Sz).2 _ hb;have hng:mS q g:=by
     cases q with
     |cells a b o' n'=>
      obtain⟨l,r1,r2⟩:=hn;refine⟨l,?_,r2⟩;unfold an at r1 ⊢;rcases a1 with⟨cs,a1⟩|⟨ob,a1,a1n⟩
      ·have:=a5 cs a1;simp only[RQ.dw]at a1 this;rw[this]at r1;rw[a1];exact r1
      ·simp only[RQ.dw]at a1 a4;exfalso;simp only[Option.bind_eq_some_iff]at r1;obtain⟨cs,r3,_⟩:=r1;obtain⟨f,t,th,r4⟩:=Ds r3;rw[a4,a1]at r4;exact a1n _ _ _ _ (Option.some.inj r4)
     |look r kd k z ok=>
      obtain⟨mm,r1,r2⟩:=hn;refine⟨mm,?_,r2⟩;simp only[RQ.dw]at a4;unfold ff at r1 ⊢;rw[←a4];exact r1
     |len r=>
      obtain⟨mm,r1,r2⟩:=hn;refine⟨mm,?_,r2⟩;simp only[RQ.dw]at a4;unfold ff at r1 ⊢;rw[←a4];exact r1
    have:=(jN hng (.inr a2) a3).2;simp[bh,this]
  |A4 bK hh hy we hx ac1=>
   rename_i m p0 b0 v0 x0 y;have hb:BJ ρ m (RQ.dw (.cells false b0 p0 1)):=.inl we;have hn:mS (.cells false b0 p0 1) h:=⟨_,ac1,hx.EB.1⟩;simp only[kS,Bool.and_eq_true,Bool.or_eq_true]at hp;refine⟨?_,kc hr db hp.2 UG (next _ _ bK fun m hm=>⟨hm,by simp⟩)⟩;rcases hp.1 with (ho|ho)|ho
   ·simp[bh,ho]
   ·simp only[Bool.not_eq_true']at ho;have hm:m∈nm:=by simpa using ho.1
    have Sz:m∉yJ:=by simpa using ho.2
    obtain⟨a1,a2,a3,a4,a5⟩:=(ht m hm Sz).2 _ hb;have hng:mS (.cells false b0 p0 1) g:=by
     obtain⟨l,r1,r2⟩:=hn;refine⟨l,?_,r2⟩;unfold an at r1 ⊢;rcases a1 with⟨cs,a1⟩|⟨ob,a1,a1n⟩
     ·have:=a5 cs a1;simp only[RQ.dw]at a1 this;rw[this]at r1;rw[a1];exact r1
     ·simp only[RQ.dw]at a1 a4;exfalso;simp only[Option.bind_eq_some_iff]at r1;obtain⟨cs,r3,_⟩:=r1;obtain⟨f,t,th,r4⟩:=Ds r3;rw[a4,a1]at r4;exact a1n _ _ _ _ (Option.some.inj r4)
    have:=(jN hng (.inr a2) a3).2;simp[bh,this]
   ·obtain⟨b1,x1,k1,k2,k3,k4⟩:=hB _ _ _ ho.1 ho.2;rw[we]at k1;cases k1;obtain rfl:=hx.uniq k4;have:fX g g' (.cells false b0 p0 1)=true:=by
     unfold fX;rw[Bool.or_eq_true];left;unfold mM;rw[bZ];split
     ·simp only[k2,k3,hx.EB.1]
     ·rfl
    simp[bh,this]
  |dE bK=>
   simp only[kS,Bool.and_eq_true]at hp;exact⟨by simp[bh,hp.1],kc hr db hp.2 UG (next _ _ bK fun m hm=>by simp only[List.mem_append,not_or]at hm;exact hm)⟩
  |pG bK hh=>
   simp only[kS,Bool.and_eq_true]at hp;exact⟨by simp[bh,hp.1],kc hr db hp.2 UG (next _ _ bK fun m hm=>by simp only[List.mem_append,not_or]at hm;exact hm)⟩
  |pH bK=>
   simp only[kS,Bool.and_eq_true]at hp;exact⟨by simp[bh,hp.1],kc hr db hp.2 UG (next _ _ bK fun m hm=>⟨hm,by simp⟩)⟩
  |bad=>exact absurd rfl (pN _ List.mem_cons_self)
theorem o4 {g:ab}:∀{ls:List VN} {es:List eD} {ρ:Gh} {F:Nat→Prop} {o:Ob} {h:ab} {j:Nat},vF oF ρ F o h ls es→(∀l∈ls,l.1≠ .bad)→tT bs i j ls=true→cI bs i (.dE g g) j es=true
 |_,_,ρ,F,_,h,j,.nil _,_,_=>rfl
 |_,_,ρ,F,o,h,j,.cons (ls:=ls) hl hw hs hF dn Sy mV b6 hr,pN,hp=>by
  have db:∀l∈ls,l.1≠ .bad:=fun l hl=>pN l (List.mem_cons_of_mem _ hl);simp only[cI,Bool.and_eq_true];cases hl with
  |pure bK=>exact⟨rfl,o4 hr db hp⟩
  |alloc bK=>exact⟨rfl,o4 hr db hp⟩
  |JV bK=>exact⟨by simp[bh,iM],o4 hr db hp⟩
  |mC bK=>exact⟨by simp[bh,iM],o4 hr db hp⟩
  |A4 bK=>exact⟨by simp[bh,iM],o4 hr db hp⟩
  |dE bK=>simp only[tT,Bool.and_eq_true]at hp;exact⟨by simp[bh,hp.1],o4 hr db hp.2⟩
  |pG bK=>simp only[tT,Bool.and_eq_true]at hp;exact⟨by simp[bh,hp.1],o4 hr db hp.2⟩
  |pH bK=>simp only[tT,Bool.and_eq_true]at hp;exact⟨by simp[bh,hp.1],o4 hr db hp.2⟩
  |bad=>exact absurd rfl (pN _ List.mem_cons_self)
theorem V6 {h h':ab} (W:Wf h) (same:∀x,x<h.size→h'.get x=h.get x) {b:Nat} {cs:List Value} (hr:h.rd b=some cs):h'.rd b=some cs:=by
 obtain⟨r,h1,h2,h3⟩:=rd_some hr;obtain⟨f1,t1,AA,hg⟩:=dV h3;obtain⟨cr,qQ⟩:=b9 h1;obtain⟨uY,q1,q2,yc⟩:=ef h1;rw[hg]at yc;cases yc;have a1:=same b (W.lt hg);have a2:=same r.1 (W.lt qQ);exact eW (cG (a1.trans hg) (a2.trans qQ)) h2 (aT (a1.trans hg))
theorem SA {h h':ab} (W:Wf h) (same:∀x,x<h.size→h'.get x=h.get x) {b:Nat} (hb:b<h.size) {cs:List Value} (hr:h'.rd b=some cs):h.rd b=some cs:=by
 obtain⟨r,h1,h2,h3⟩:=rd_some hr;obtain⟨f1,t1,AA,hg⟩:=dV h3;obtain⟨cr,qQ⟩:=b9 h1;obtain⟨uY,q1,q2,yc⟩:=ef h1;rw[hg]at yc;cases yc;have a1:=(same b hb).symm.trans hg;have hle:=W.le _ _ _ _ _ a1;have a2:=(same r.1 om).symm.trans qQ;exact eW (cG a1 a2) h2 (aT a1)
theorem LQ {g g' h:ab} (W:Wf g) (hG:∀b,b<g.size→g'.get b=g.get b) (hq:∀b,b<g.size→h.get b=g.get b) {q:RQ} (hn:mS q h):fX g g' q=true:=by
 by_cases hb:q.dw<g.size
 ·have k1:=jN (h:=h) (h':=g) hn (.inr (hq _ hb).symm) fun cs hr=>SA W hq hb hr;exact(jN k1.1 (.inr (hG _ hb)) fun cs hr=>V6 W hG hr).2
 ·unfold fX mM;have e:Nat.blt q.dw g.size=false:=by
   cases hx:Nat.blt q.dw g.size with
   |false=>rfl
   |true=>exact absurd (ba.1 hx) hb
  rw[e];rfl
theorem o5 {g g':ab} (W:Wf g) (hG:∀b,b<g.size→g'.get b=g.get b):∀{ls:List VN} {es:List eD} {ρ:Gh} {F:Nat→Prop} {o:Ob} {h:ab} {q:Bool} {j:Nat},vF oF ρ F o h ls es→(∀l∈ls,l.1≠ .bad)→kq bs i q j ls=true→
 (q=true→g.size≤h.size∧∀b,b<g.size→h.get b=g.get b)→cI bs i (.dE g g') j es=true
 |_,_,ρ,F,_,h,q,j,.nil _,_,_,_=>rfl
 |_,_,ρ,F,o,h,q,j,.cons (ls:=ls) hl hw hs hF dn Sy mV b6 hr,pN,hp,hq=>by
  have db:∀l∈ls,l.1≠ .bad:=fun l hl=>pN l (List.mem_cons_of_mem _ hl);simp only[cI,Bool.and_eq_true];have rdc:∀{x:RQ},(q||ordered bs i j)=true→mS x h→bh bs i (.dE g g') j (.rd x h)=true:=fun {x} ho hn=>by
   rcases Bool.or_eq_true _ _▸ho with e|e
   ·simp[bh,LQ W hG (hq e).2 hn]
   ·simp[bh,e]
  cases hl with
  |pure bK hh=>subst hh;exact⟨rfl,o5 W hG hr db hp hq⟩
  |alloc bK=>exact⟨rfl,o5 W hG hr db (q:=false) hp fun e=>by cases e⟩
  |JV bK hh ZH hc hn=>subst hh;simp only[kq,Bool.and_eq_true]at hp;exact⟨rdc hp.1 hn,o5 W hG hr db hp.2 hq⟩
  |mC bK hh hy hb hn=>subst hh;simp only[kq,Bool.and_eq_true]at hp;exact⟨rdc hp.1 hn,o5 W hG hr db hp.2 hq⟩
  |A4 bK hh hy hb hx gA=>subst hh;simp only[kq,Bool.and_eq_true]at hp;exact⟨rdc hp.1 ⟨_,gA,hx.EB.1⟩,o5 W hG hr db hp.2 hq⟩
  |dE bK=>simp only[kq,Bool.and_eq_true]at hp;exact⟨by simp[bh,hp.1],o5 W hG hr db (q:=false) hp.2 fun e=>by cases e⟩
  |pG bK hh=>subst hh;simp only[kq,Bool.and_eq_true]at hp;exact⟨by simp[bh,hp.1],o5 W hG hr db hp.2 hq⟩
  |pH bK hG2=>
   simp only[kq,Bool.and_eq_true]at hp;exact⟨by simp[bh,hp.1],o5 W hG hr db hp.2 fun e=>⟨Nat.le_trans (hq e).1 hs,fun b hb=>(hG2 b (Nat.lt_of_lt_of_le hb (hq e).1)).trans ((hq e).2 b hb)⟩⟩
  |bad=>exact absurd rfl (pN _ List.mem_cons_self)
theorem FY:∀{es:List eD} {j:Nat},cI bs i .pure j es=true
 |[],_=>rfl
 |e::es,j=>by simp only[cI,Bool.and_eq_true];exact⟨by cases e<;>rfl,FY⟩
theorem BS {g g':ab} (W:Wf g):∀{es:List eD} {j:Nat},cI bs i (.alloc g g') j es=true
 |[],_=>rfl
 |e::es,j=>by
  simp only[cI,Bool.and_eq_true];exact⟨by cases e<;>first|rfl |exact xT W _,BS W⟩
theorem gU:∀{ls:List VN} {es:List eD} {ρ:Gh} {F:Nat→Prop} {o:Ob} {h:ab} {j:Nat},vF oF ρ F o h ls es→gd bs oF j ls=true→mN bs j es=true
 |_,_,ρ,F,_,h,j,.nil _,_=>rfl
 |_,_,ρ,F,o,h,j,.cons (h':=h') (l:=l) (e:=e) (ls:=ls) hl hw hs hF dn Sy mV b6 hr,hd=>by
  have pN:=ui hd;have db:∀l∈ls,l.1≠ .bad:=fun l hl=>pN l (List.mem_cons_of_mem _ hl);simp only[mN,Bool.and_eq_true];cases hl with
  |pure=>exact⟨⟨rfl,FY⟩,gU hr hd⟩
  |alloc=>exact⟨⟨rfl,BS hw⟩,gU hr hd⟩
  |JV bK hh ZH hc hn=>subst hh;exact⟨⟨by simp only[na,ba];exact ze hw hn,UF hc hr db (hF _ ZH) hn⟩,gU hr hd⟩
  |mC bK hh hy hb hn=>
   subst hh;simp only[gd,Bool.and_eq_true]at hd;refine⟨⟨by simp only[na,ba];exact ze hw hn,qn hr db hd.1 fun _=>?_⟩,gU hr hd.2⟩;obtain⟨⟨y',r1⟩,r2,_⟩:=bK _ _ hy (by simp);exact⟨⟨y',r1⟩,by unfold BJ at hb ⊢;rw[r2];exact hb,hn⟩
  |A4 bK hh hy hb hx gA=>
   rename_i nn pp bb vv xx yy;subst hh;simp only[gd,Bool.and_eq_true]at hd;have hn:mS (.cells false _ _ 1) _:=⟨_,gA,hx.EB.1⟩;refine⟨⟨by simp only[na,ba];exact ze hw hn,jO (x:=xx) hr db hd.1 fun _=>?_⟩,gU hr hd.2⟩;obtain⟨⟨y',r1⟩,r2,_⟩:=bK _ _ hy (by simp);exact⟨⟨y',r1⟩,mV _ _ hb,gA,hx.bA mV⟩
  |dE bK=>
   simp only[gd,Bool.and_eq_true]at hd;refine⟨⟨by simp only[na,aW];exact hs,kc hr db hd.1 (by rw[hr.next.1];exact OW b6 hr.next.2 mV) fun m hm Sz=>?_⟩,gU hr hd.2⟩;obtain⟨y,hy⟩:=zd hm;obtain⟨⟨y',r1⟩,r2,r3⟩:=bK m y hy Sz;refine⟨⟨y',r1⟩,fun b hb=>?_⟩;have bV:BJ ρ m b:=by unfold BJ at hb ⊢;rw[←r2];exact hb
   obtain⟨b1,b2⟩:=r3 b bV;exact⟨Sy m y b hy bV,b1,b2,b1,b2⟩
  |pG bK hh=>
   subst hh;simp only[gd,Bool.and_eq_true]at hd;exact⟨⟨by simp only[na,aW];exact hs,o4 hr db hd.1⟩,gU hr hd.2⟩
  |pH bK hG=>
   simp only[gd,Bool.and_eq_true,Bool.or_eq_true]at hd;refine⟨⟨by simp only[na,aW];exact hs,?_⟩,gU hr hd.2⟩;rcases hd.1 with Hv|Hv
   ·exact o5 hw hG hr db Hv fun _=>⟨hs,hG⟩
   ·refine kc hr db Hv (by rw[hr.next.1];exact OW b6 hr.next.2 mV) fun m hm Sz=>?_;obtain⟨y,hy⟩:=zd hm;obtain⟨⟨y',r1⟩,r2,r3⟩:=bK m y hy Sz;refine⟨⟨y',r1⟩,fun b hb=>?_⟩;have bV:BJ ρ m b:=by unfold BJ at hb ⊢;rw[←r2];exact hb
    obtain⟨b1,b2⟩:=r3 b bV;exact⟨Sy m y b hy bV,b1,b2,b1,b2⟩
  |bad=>exact absurd rfl (pN _ List.mem_cons_self)
end
section
variable {T E:Env} {X:Cx} {ρ:Gh} {F:Nat→Prop} {o:Ob} {c n:Nat} {af:AF} {f:Fr} {h:ab} {ops:List Oper}
theorem vG (p:Nat×TV) (f:Fr) (t:Nat):sD (p::f) t=if p.1=t then p.2 else sD f t:=by
 show(match Nat.beq p.1 t with|true=>p.2|false=>sD f t)=_;rw[Fs];by_cases h:p.1=t<;>simp[h]
theorem xU {d:Option Tmp} {v:TV} {x:Value} {K:Fr→Prop} (hw:tU d n v f K) (S:dN c ρ F h f af) (hn:af.n=n) (hv:VR c ρ F h v x):∃f',K f'∧dN c ρ F h f' (af.put d x)∧(af.put d x).n=n:=by
 unfold tU at hw;cases d with
 |none=>exact⟨f,hw,S,hn⟩
 |some t=>
  simp only at hw;split at hw
  ·rename_i ht;rw[ba]at ht;refine⟨_,hw,fun u=>?_,by rw[AF.Uc];exact hn⟩;rw[vG];show VR c ρ F h _ ((af.set t x).get u);rw[AF.jY];by_cases e:t=u
   ·subst e;rw[if_pos rfl,if_pos ⟨rfl,om⟩];exact hv
   ·rw[if_neg e,if_neg (fun e2=>e e2.1.symm)];exact S u
  ·exact hw.elim
theorem BT {p:Oper} {K1 K2:Prop} (hw:qg ops p f K1 K2) (S:dN c ρ F h f af):(wanted ops p af=true∧K1)∨(wanted ops p af=false∧K2):=by
 unfold qg at hw;unfold wanted;split at hw
 ·rename_i hg;rw[hg];exact .inl ⟨rfl,hw⟩
 ·rename_i j want hg;rw[hg];simp only
  split at hw
  ·exact hw.elim
  ·rename_i q hq;rw[hq];simp only[Option.bind_some];split at hw
   ·exact hw.elim
   ·rename_i t ht;rw[ht];simp only
    split at hw
    ·rename_i b hb;have:=S t;rw[hb]at this;rw[this.dA.1];simp only
     cases b<;>cases want<;>simp only at hw<;>simp[hw]
    ·rename_i hb;have:=S t;rw[hb]at this;obtain⟨a,ha,hl⟩:=this.Dq;rw[ha];exact .inr ⟨rfl,hw⟩
    ·exact hw.elim
theorem DL (L:cD T E) (NX:Iv E X) {K:RK}:∀(rest:List Oper) {ρ:Gh} {F:Nat→Prop} {o:Ob} {c:Nat} {f:Fr} {af:AF} {h:ab},Fp T (VC E) n ops rest f o c K→Mem X ρ F o c h→dN c ρ F h f af→af.n=n→
 ∃n0 xr h' f' o' c' ρ' F',(∀m,n0≤m→si E X.base (iK E X.base m) (iw X.base (aX E X.base m)) ops rest af h=some (xr,h'))∧K f' o' c'∧Nx X ρ F o c h ρ' F' o' c' h'∧dN c' ρ' F' h' f' xr∧xr.n=n
 |[],ρ,F,o,c,f,af,h,hw,H,S,hn=>⟨0,af,h,f,o,c,ρ,F,fun m _=>rfl,hw,.refl H,S,hn⟩
 |p::rest,ρ,F,o,c,f,af,h,hw,H,S,hn=>by
  simp only[Fp]at hw;rcases BT hw S with⟨rR,hw⟩|⟨rR,hw⟩
  ·obtain⟨n1,r,v,o1,c1,iX,F1,lg,h1,h2,N,hv,_⟩:=OV L NX H S hw;have S1:dN c1 iX F1 r.h f af:=fun t=>N.bA _ _ (S t);obtain⟨f1,h3,S2,Sg⟩:=xU h2 S1 hn hv;obtain⟨n2,xr,h',f',o',c',ρ',F',k1,k2,N2,k3,k4⟩:=DL L NX rest h3 N.mem S2 Sg;refine⟨max n1 n2,xr,h',f',o',c',ρ',F',fun m hm=>?_,k2,⟨N2.mem,fun t x hx=>N2.bA t x (N.bA t x hx),Nat.le_trans N.size N2.size,fun b hb=>N2.FF b (N.FF b hb),fun b cs hb hr=>N2.dn b cs (N.FF b hb) (N.dn b cs hb hr)⟩,k3,k4⟩;unfold si;rw[rR];simp only
   rw[h1 m om];simp only[Option.bind_some];exact k1 m om
  ·obtain⟨f1,h3,S2,Sg⟩:=xU hw S hn (show VR _ _ _ _ (.dk []) undef from .dk rfl fun i t v h=>by simp at h);obtain⟨n2,xr,h',f',o',c',ρ',F',k1,k2,N2,k3,k4⟩:=DL L NX rest h3 H S2 Sg;refine⟨n2,xr,h',f',o',c',ρ',F',fun m hm=>?_,k2,N2,k3,k4⟩;unfold si;rw[rR];exact k1 m hm
theorem zi (L:cD T E) (NX:Iv E X) {K:List VN→RK}:∀(rest:List Oper) {ρ:Gh} {F:Nat→Prop} {o:Ob} {c:Nat} {f:Fr} {af:AF} {h:ab} {lg:List VN},tV T (VC E) n ops rest f o c lg K→Mem X ρ F o c h→dN c ρ F h f af→af.n=n→
 ∃n0 xr h' es f' o' c' ρ' F' ls,(∀m,n0≤m→kj E X.base (iK E X.base m) (iw X.base (aX E X.base m)) ops rest af h=some (xr,h',es))∧K (lg++ls) f' o' c'∧Nx X ρ F o c h ρ' F' o' c' h'∧dN c' ρ' F' h' f' xr∧xr.n=n∧
  vF o' ρ F o h ls es
 |[],ρ,F,o,c,f,af,h,lg,hw,H,S,hn=>⟨0,af,h,[],f,o,c,ρ,F,[],fun m _=>rfl,by simpa[tV]using hw,.refl H,S,hn,.nil H.DK⟩
 |p::rest,ρ,F,o,c,f,af,h,lg,hw,H,S,hn=>by
  simp only[tV]at hw;rcases BT hw S with⟨rR,hw⟩|⟨rR,hw⟩
  ·obtain⟨n1,r,v,o1,c1,iX,F1,l,h1,h2,N,hv,mI⟩:=OV L NX H S hw;have S1:dN c1 iX F1 r.h f af:=fun t=>N.bA _ _ (S t);obtain⟨f1,h3,S2,Sg⟩:=xU h2 S1 hn hv;obtain⟨n2,xr,h',es,f',o',c',ρ',F',ls,k1,k2,N2,k3,k4,k5⟩:=zi L NX rest h3 N.mem S2 Sg
   refine⟨max n1 n2,xr,h',r.log::es,f',o',c',ρ',F',(l,o)::ls,fun m hm=>?_,by simpa using k2,⟨N2.mem,fun t x hx=>N2.bA t x (N.bA t x hx),Nat.le_trans N.size N2.size,fun b hb=>N2.FF b (N.FF b hb),fun b cs hb hr=>N2.dn b cs (N.FF b hb) (N.dn b cs hb hr)⟩,k3,k4,
    .cons mI H.wf N.size N.FF N.dn (fun m y b hy hb=>H.live hy hb) (fun k b hk=>by cases N.bA _ _ (VR.mp (c:=c) (F:=F) (h:=h) hk)with|mp h'=>exact h') H.DK k5⟩
   unfold kj;rw[rR];simp only
   rw[h1 m om];simp only[Option.bind_some];rw[k1 m om];rfl
  ·obtain⟨f1,h3,S2,Sg⟩:=xU hw S hn (show VR _ _ _ _ (.dk []) undef from .dk rfl fun i t v h=>by simp at h);obtain⟨n2,xr,h',es,f',o',c',ρ',F',ls,k1,k2,N2,k3,k4,k5⟩:=zi L NX rest h3 H S2 Sg;refine⟨n2,xr,h',.pure::es,f',o',c',ρ',F',(.pure,o)::ls,fun m hm=>?_,by simpa using k2,N2,k3,k4,.cons (.pure (.refl _) rfl) H.wf (Nat.le_refl _) (fun _ h=>h) (fun _ _ _ hr=>hr) (fun m y b hy hb=>H.live hy hb) (fun _ _ h=>h) H.DK k5⟩;unfold kj;rw[rR];simp only
   rw[k1 m hm];rfl
end
section
variable {T E:Env} {X:Cx} {n:Nat}
theorem OX {ids:List (Option Nat)} {o:Ob} {f f1:Fr} {t:Nat} (L:Ya ids o f f1):Y9 ids o (sD f t) (sD f1 t)∨sD f1 t= .j:=by
 induction L with
 |nil=>exact .inr rfl
 |cons h _ ih=>
  rw[vG];split
  ·rename_i e;subst e;exact .inl h
  ·exact ih
theorem adapt {ρ:Gh} {F:Nat→Prop} {o:Ob} {c:Nat} {f:Fr} {af:AF} {h:ab} (H:Mem X ρ F o c h) (S:dN c ρ F h f af) {sh:List Nat} {ids:List (Option Nat)} {U:List Nat} {f1:Fr} {o1:Ob} (hi:(jf c ids&&qd X.c0 0 ids&&nu ids U)=true)
 (hf:Ya ids (cO sh o) f f1) (ho:JY ids (cO sh o) U o1):∃ρ' F',Mem X ρ' F' o1 ids.length h∧dN ids.length ρ' F' h f1 af:=by
 simp only[Bool.and_eq_true]at hi;obtain⟨F1,S1⟩:=kz H sh;refine⟨_,F1,S1.mem.le hi.1.1 hi.1.2 hi.2 ho,fun t=>?_⟩;rcases OX (t:=t) hf with h1|h1
 ·exact qV S1.mem _ _ _ h1 (S1.bA _ _ (S t))
 ·rw[h1];exact .j _
def nY (E:Env) (base:Nat) (code:Code) (af:AF) (h:ab) (r:Ex×AF×ab):Prop:=∃n0,∀m,n0≤m→aX E base m code af h=some r
def Comes (E:Env) (X:Cx) (n:Nat) (code:Code) (af:AF) (h:ab) (Q:CK):Prop:=
 ∃ex xr h' f' o' c' ρ' F',nY E X.base code af h (ex,xr,h')∧Q ex f' o' c'∧Mem X ρ' F' o' c' h'∧dN c' ρ' F' h' f' xr∧xr.n=n
theorem nY.ac3 {a b:Code} {af pt:AF} {h h1:ab} {r:Ex×AF×ab} {base:Nat} (A:nY E base a af h (.normal,pt,h1)) (B:nY E base b pt h1 r):nY E base (.seq a b) af h r:=by
 obtain⟨n1,A⟩:=A;obtain⟨n2,B⟩:=B;refine⟨max n1 n2+1,fun m hm=>?_⟩;obtain⟨k,rfl⟩:∃k,m=k+1:=⟨m - 1,om⟩;simp only[aX];rw[A k om];exact B k om
theorem nY.ZJ {a b:Code} {af pt:AF} {h h1:ab} {ex:Ex} {base:Nat} (A:nY E base a af h (ex,pt,h1)) (hx:ex≠ .normal):nY E base (.seq a b) af h (ex,pt,h1):=by
 obtain⟨n1,A⟩:=A;refine⟨n1+1,fun m hm=>?_⟩;obtain⟨k,rfl⟩:∃k,m=k+1:=⟨m - 1,om⟩;simp only[aX];rw[A k om];cases ex<;>first|rfl |exact absurd rfl hx
theorem nY.UH {b:Code} {af pt:AF} {h h1:ab} {r:Ex×AF×ab} {base:Nat} (A:nY E base b af h (.normal,pt,h1)) (B:nY E base (.loop b) pt h1 r):nY E base (.loop b) af h r:=by
 obtain⟨n1,A⟩:=A;obtain⟨n2,B⟩:=B;refine⟨max n1 n2+1,fun m hm=>?_⟩;obtain⟨k,rfl⟩:∃k,m=k+1:=⟨m - 1,om⟩;simp only[aX];rw[A k om];exact B k om
theorem nY.Kk {b:Code} {af pt:AF} {h h1:ab} {ex:Ex} {base:Nat} (A:nY E base b af h (ex,pt,h1)) (hx:ex≠ .normal):nY E base (.loop b) af h (ex,pt,h1):=by
 obtain⟨n1,A⟩:=A;refine⟨n1+1,fun m hm=>?_⟩;obtain⟨k,rfl⟩:∃k,m=k+1:=⟨m - 1,om⟩;simp only[aX];rw[A k om];cases ex<;>first|rfl |exact absurd rfl hx
theorem nY.one {c:Code} {af:AF} {h:ab} {r:Ex×AF×ab} {base:Nat} (hx:∀k,aX E base (k+1) c af h=some r):nY E base c af h r:=
 ⟨1,fun m hm=>by obtain⟨k,rfl⟩:∃k,m=k+1:=⟨m - 1,om⟩;exact hx k⟩
theorem rk {ρ:Gh} {F:Nat→Prop} {o:Ob} {c:Nat} {f:Fr} {af:AF} {h:ab} {K:RK} (H:Mem X ρ F o c h) (S:dN c ρ F h f af) (ht:jJ X.c0 f o c K):∃f1 o1 c1 ρ' F',K f1 o1 c1∧Mem X ρ' F' o1 c1 h∧dN c1 ρ' F' h f1 af:=by
 obtain⟨sh,ids,U,f1,o1,⟨hf,ho,hi⟩,hK⟩:=ht;obtain⟨ρ',F',H',S'⟩:=adapt H S hi hf ho;exact⟨f1,o1,_,ρ',F',hK,H',S'⟩
theorem ZK {dF:List Nat} (L:cD T E) (NX:Iv E X):∀(code:Code) {ρ:Gh} {F:Nat→Prop} {o:Ob} {c:Nat} {f:Fr} {af:AF} {h:ab} {Q:CK},wp T (VC E) n X.c0 dF code f o c Q→Mem X ρ F o c h→dN c ρ F h f af→af.n=n→Comes E X n code af h Q:=by
 intro code
 induction code with
 |skip=>intro ρ F o c f af h Q hw H S hn;exact⟨.normal,af,h,f,o,c,ρ,F,.one fun k=>rfl,hw,H,S,hn⟩
 |exit id=>intro ρ F o c f af h Q hw H S hn;exact⟨.exit id,af,h,f,o,c,ρ,F,.one fun k=>rfl,hw,H,S,hn⟩
 |ret=>intro ρ F o c f af h Q hw H S hn;exact⟨.ret,af,h,f,o,c,ρ,F,.one fun k=>rfl,hw,H,S,hn⟩
 |region id ops draw=>
  intro ρ F o c f af h Q hw H S hn;simp only[wp]at hw;cases draw with
  |false=>
   obtain⟨n0,xr,h',f',o',c',ρ',F',k1,k2,N,k3,k4⟩:=DL L NX ops.toList hw H S hn;refine⟨.normal,xr,h',f',o',c',ρ',F',⟨n0+1,fun m hm=>?_⟩,k2,N.mem,k3,k4⟩;obtain⟨k,rfl⟩:∃k,m=k+1:=⟨m - 1,om⟩;simp only[aX,kZ];have:=k1 k om;unfold iK at this;rw[this];rfl
  |true=>
   simp only at hw;split at hw
   ·rename_i bR;obtain⟨n0,xr,h',es,f',o',c',ρ',F',ls,k1,k2,N,k3,k4,k5⟩:=zi L NX ops.toList hw H S hn;simp only[List.nil_append]at k2;split at k2
    ·rename_i hd;refine⟨.normal,xr,h',f',o',c',ρ',F',⟨n0+1,fun m hm=>?_⟩,k2,N.mem,k3,k4⟩;obtain⟨k,rfl⟩:∃k,m=k+1:=⟨m - 1,om⟩;simp only[aX,kZ];have:=k1 k om;unfold iK at this;rw[hn,bR,this];simp only[bO,Option.bind_some];rw[gU k5 hd]
    ·exact k2.elim
   ·exact hw.elim
 |seq a b ZL ZM=>
  intro ρ F o c f af h Q hw H S hn;simp only[wp]at hw;obtain⟨ex,pt,h1,f1,o1,c1,iX,F1,r1,q1,H1,S1,n1⟩:=ZL hw H S hn;cases ex with
  |normal=>
   obtain⟨V7,af2,h2,f2,o2,c2,Yk,F2,r2,q2,H2,S2,n2⟩:=ZM q1 H1 S1 n1;exact⟨V7,af2,h2,f2,o2,c2,Yk,F2,r1.ac3 r2,q2,H2,S2,n2⟩
  |exit id=>exact⟨.exit id,pt,h1,f1,o1,c1,iX,F1,r1.ZJ (by simp),q1,H1,S1,n1⟩
  |ret=>exact⟨.ret,pt,h1,f1,o1,c1,iX,F1,r1.ZJ (by simp),q1,H1,S1,n1⟩
 |cond q t e ZN ZO=>
  intro ρ F o c f af h Q hw H S hn;simp only[wp]at hw;split at hw
  ·exact hw.elim
  ·rename_i lz;obtain⟨v,h1,h2⟩:=qY (E:=E) L ((NX.now H).sub L) S lz;split at hw
   ·rename_i b hb;rw[hb]at h2;have:=h2.dA.1;subst this;have key:∀{x:Code} {r:Ex×AF×ab},nY E X.base x af h r→(∀k,aX E X.base (k+1) (.cond q t e) af h=aX E X.base k x af h)→nY E X.base (.cond q t e) af h r:=by
     rintro x r ⟨n0,hr⟩ hk;refine⟨n0+1,fun m hm=>?_⟩;obtain⟨k,rfl⟩:∃k,m=k+1:=⟨m - 1,om⟩;rw[hk];exact hr k om
    split at hw
    ·obtain⟨ex,pt,uX,f1,o1,c1,iX,F1,r1,q1,H1,S1,n1⟩:=ZN hw H S hn;exact⟨ex,pt,uX,f1,o1,c1,iX,F1,key r1 fun k=>by simp only[aX,h1,Option.bind_some,Nv],q1,H1,S1,n1⟩
    ·obtain⟨ex,pt,uX,f1,o1,c1,iX,F1,r1,q1,H1,S1,n1⟩:=ZO hw H S hn;exact⟨ex,pt,uX,f1,o1,c1,iX,F1,key r1 fun k=>by simp only[aX,h1,Option.bind_some,Nv],q1,H1,S1,n1⟩
   ·exact hw.elim
 |block id b ih=>
  intro ρ F o c f af h Q hw H S hn;simp only[wp]at hw
  have key:∀{n0:Nat} {V7:Ex} {pt:AF} {h1:ab},(∀k,n0≤k→aX E X.base (k+1) (.block id b) af h=some (V7,pt,h1))→nY E X.base (.block id b) af h (V7,pt,h1):=fun {n0} {V7} {pt} {h1} hk=>
   ⟨n0+1,fun m hm=>by obtain⟨k,rfl⟩:∃k,m=k+1:=⟨m - 1,om⟩;exact hk k om⟩
  split at hw
  ·obtain⟨ex,pt,h1,f1,o1,c1,iX,F1,⟨n0,r1⟩,q1,H1,S1,n1⟩:=ih hw H S hn;cases ex with
   |normal=>exact⟨.normal,pt,h1,f1,o1,c1,iX,F1,key (n0:=n0) fun k hk=>by simp only[aX,r1 k hk],q1,H1,S1,n1⟩
   |ret=>exact⟨.ret,pt,h1,f1,o1,c1,iX,F1,key (n0:=n0) fun k hk=>by simp only[aX,r1 k hk],q1,H1,S1,n1⟩
   |exit pj=>
    simp only at q1;split at q1
    ·rename_i hid;exact⟨.normal,pt,h1,f1,o1,c1,iX,F1,key (n0:=n0) fun k hk=>by simp only[aX,r1 k hk,hid,cond_true],q1,H1,S1,n1⟩
    ·rename_i hid;exact⟨.exit pj,pt,h1,f1,o1,c1,iX,F1,key (n0:=n0) fun k hk=>by simp only[aX,r1 k hk,hid,cond_false],q1,H1,S1,n1⟩
  ·obtain⟨Nj,hw,ZP⟩:=hw;obtain⟨ex,pt,h1,f1,o1,c1,iX,F1,⟨n0,r1⟩,q1,H1,S1,n1⟩:=ih hw H S hn;cases ex with
   |normal=>
    obtain⟨f2,o2,c2,Yk,F2,hM,H2,S2⟩:=rk H1 S1 q1;exact⟨.normal,pt,h1,f2,o2,c2,Yk,F2,key (n0:=n0) fun k hk=>by simp only[aX,r1 k hk],ZP _ _ _ hM,H2,S2,n1⟩
   |ret=>exact⟨.ret,pt,h1,f1,o1,c1,iX,F1,key (n0:=n0) fun k hk=>by simp only[aX,r1 k hk],q1,H1,S1,n1⟩
   |exit pj=>
    simp only at q1;split at q1
    ·rename_i hid;obtain⟨f2,o2,c2,Yk,F2,hM,H2,S2⟩:=rk H1 S1 q1;exact⟨.normal,pt,h1,f2,o2,c2,Yk,F2,key (n0:=n0) fun k hk=>by simp only[aX,r1 k hk,hid,cond_true],ZP _ _ _ hM,H2,S2,n1⟩
    ·rename_i hid;exact⟨.exit pj,pt,h1,f1,o1,c1,iX,F1,key (n0:=n0) fun k hk=>by simp only[aX,r1 k hk,hid,cond_false],q1,H1,S1,n1⟩
 |loop b ih=>
  intro ρ F o c f af h Q hw H S hn;simp only[wp]at hw;split at hw;rotate_left
  ·have main:∀(k:Nat) {ρ:Gh} {F:Nat→Prop} {o:Ob} {c:Nat} {f:Fr} {af:AF} {h:ab},BA (fun f o c Q=>wp T (VC E) n X.c0 dF b f o c Q) k f o c Q→Mem X ρ F o c h→dN c ρ F h f af→af.n=n→Comes E X n (.loop b) af h Q:=by
    intro k
    induction k with
    |zero=>intro ρ F o c f af h hw;exact hw.elim
    |succ k ihk=>
     intro ρ F o c f af h hw H S hn;simp only[BA]at hw;obtain⟨ex,pt,h1,f1,o1,c1,iX,F1,r1,q1,H1,S1,n1⟩:=ih hw H S hn;cases ex with
     |normal=>
      obtain⟨ex,af3,h3,f3,o3,c3,ρ3,F3,r3,q3,H3,S3,n3⟩:=ihk q1 H1 S1 n1;exact⟨ex,af3,h3,f3,o3,c3,ρ3,F3,r1.UH r3,q3,H3,S3,n3⟩
     |exit id=>exact⟨.exit id,pt,h1,f1,o1,c1,iX,F1,r1.Kk (by simp),q1,H1,S1,n1⟩
     |ret=>exact⟨.ret,pt,h1,f1,o1,c1,iX,F1,r1.Kk (by simp),q1,H1,S1,n1⟩
   exact main 64 hw H S hn
  obtain⟨Inv,⟨k0,hI⟩,ZQ⟩:=hw;obtain⟨f1,o1,c1,iX,F1,hI1,H1,S1⟩:=rk H S hI;have main:∀(k:Nat) {ρ:Gh} {F:Nat→Prop} {o:Ob} {c:Nat} {f:Fr} {af:AF} {h:ab},Inv k f o c→Mem X ρ F o c h→dN c ρ F h f af→af.n=n→Comes E X n (.loop b) af h Q:=by
   intro k
   induction k using Nat.strongRecOn with
   |ind k ihk=>
    intro ρ F o c f af h hI H S hn;obtain⟨ex,pt,h1,f1,o1,c1,iX,F1,r1,q1,H1,S1,n1⟩:=ih (ZQ k f o c hI) H S hn;cases ex with
    |normal=>
     obtain⟨k',ht,aN⟩:=q1;obtain⟨f2,o2,c2,Yk,F2,hI2,H2,S2⟩:=rk H1 S1 ht;obtain⟨ex,af3,h3,f3,o3,c3,ρ3,F3,r3,q3,H3,S3,n3⟩:=ihk k' aN hI2 H2 S2 n1;exact⟨ex,af3,h3,f3,o3,c3,ρ3,F3,r1.UH r3,q3,H3,S3,n3⟩
    |exit id=>exact⟨.exit id,pt,h1,f1,o1,c1,iX,F1,r1.Kk (by simp),q1,H1,S1,n1⟩
    |ret=>exact⟨.ret,pt,h1,f1,o1,c1,iX,F1,r1.Kk (by simp),q1,H1,S1,n1⟩
  exact main k0 hI1 H1 S1 hn
 |_=>intro ρ F o c f af h Q hw H S hn;exact hw.elim
end
section
variable {T E:Env} {X:Cx} {ρ:Gh} {F:Nat→Prop} {o:Ob} {c n:Nat} {f:Fr} {af:AF} {h:ab}
theorem sK:∀(l:List Value) (i:Nat) (f:AF) (t:Nat),(AF.pQ l i f).get t=(if i≤t∧t<i+l.length∧t<f.n then(match l[t - i]? with|some v=>v|none=>undef)else f.get t)∧(AF.pQ l i f).n=f.n
 |[],i,f,t=>by
  refine⟨?_,rfl⟩;rw[if_neg (by simp only[List.length_nil];omega)];rfl
 |v::l,i,f,t=>by
  simp only[AF.pQ];obtain⟨h1,h2⟩:=sK l (i+1) (f.set i v) t;rw[AF.NA]at h1 h2;refine⟨?_,h2⟩;rw[h1];by_cases hx:i+1≤t∧t<i+1+l.length∧t<f.n
  ·rw[if_pos hx,if_pos (by simp only[List.length_cons];omega)];have:t - i=(t - (i+1))+1:=by omega
   rw[this,List.getElem?_cons_succ]
  ·rw[if_neg hx,AF.jY];by_cases e:t=i
   ·subst e;by_cases hn:t<f.n
    ·rw[if_pos ⟨rfl,hn⟩,if_pos (by simp only[List.length_cons];omega)];simp
    ·rw[if_neg (fun h=>hn h.2),if_neg om]
   ·rw[if_neg (fun h=>e h.1),if_neg (by simp only[List.length_cons];omega)]
theorem BU:∀(l:List TV) (i t:Nat),sD (rT i l) t=if i≤t then(match l[t - i]? with|some v=>v|none=>.j)else .j
 |[],i,t=>by simp[rT,sD]
 |v::l,i,t=>by
  simp only[rT];rw[vG,BU l (i+1) t];by_cases e:i=t
  ·subst e;simp
  ·rw[if_neg e];by_cases hx:i+1≤t
   ·rw[if_pos hx,if_pos om];have:t - i=(t - (i+1))+1:=by omega
    rw[this,List.getElem?_cons_succ]
   ·rw[if_neg hx];by_cases hy:i≤t
    ·omega
    ·rw[if_neg hy]
theorem FZ {args:List TV} {cq:List Value} (H:dP c ρ F h args cq) (hn:args.length≤n):dN c ρ F h (rT 0 args) (AF.enter cq n)∧(AF.enter cq n).n=n:=by
 refine⟨fun t=>?_,(sK cq 0 _ 0).2⟩;rw[BU,if_pos (Nat.zero_le _)];cases ht:args[t - 0]? with
 |none=>exact .j _
 |some v=>
  simp only
  have aN:=(List.getElem?_eq_some_iff.1 ht).1;obtain⟨x,hx⟩:∃x,cq[t - 0]? =some x:=⟨_,List.getElem?_eq_getElem (by rw[←H.1];exact aN)⟩;have:=(sK cq 0 ⟨.nil,n⟩ t).1;unfold AF.enter;rw[this,if_pos ⟨Nat.zero_le _,by rw[←H.1];omega,by simp only;omega⟩,hx];exact H.2 _ _ _ ht hx
theorem zj (L:cD T E) (H:Mem X ρ F o c h) (S:dN c ρ F h f af):∀{rs:List ResultVar} {vs:List TV},Fq T f o rs=some vs→∃xs,eo E h af rs=some xs∧dP c ρ F h vs xs
 |[],vs,hv=>by simp[Fq]at hv;subst hv;exact⟨[],rfl,.nil⟩
 | .tmp t::l,vs,hv=>by
  unfold Fq at hv;split at hv
  ·rename_i ws V8;cases hv;obtain⟨xs,h1,h2⟩:=zj L H S V8;exact⟨_,by simp[eo,h1],.cons (S t) h2⟩
  ·cases hv
 | .cell a t::l,vs,hv=>by
  unfold Fq at hv;split at hv
  ·rename_i m q agg n ha hs;split at hv
   ·rename_i cs hl;split at hv
    ·rename_i w hw;split at hv
     ·rename_i v ws pJ V8 pq;cases hv;obtain⟨xs,h1,h2⟩:=zj L H S V8;obtain⟨Sm,hO⟩:=H.ct hl;have hp:=S a;rw[ha]at hp;cases hO with
      |cells hb hg AK hc=>
       rename_i Sq b bd cs';cases hE:af.get a with
       |pointer p=>
        rw[hE]at hp;cases hp with
        |ptr bV=>
         rw[hb]at bV;cases bV;rw[bo]at hw;obtain⟨w1,rfl⟩:=hw;obtain⟨S1,S2,S3,_,a1,a2,a3⟩:=hc.part q n;obtain⟨k2,_⟩:=a2.Uv (fun t v hv hf=>hv.dC hf) pq;have k1:takeN n (cs'.drop q)=some ((cs'.drop q).take n):=by
          rw[bo];have:=hc.len;simp only[List.length_drop]at w1 ⊢;exact⟨om,trivial⟩
         obtain⟨x,k3,k4⟩:=gI pJ k2;have Kb:M.an h b q n=some ((cs'.drop q).take n):=by
          unfold M.an;rw[eW (cG hg hg) AK (aT hg)];exact k1
         exact⟨x::xs,by simp[eo,hE,jC,L.shape hs,Kb,k3,h1],.cons k4 h2⟩
       |_=>rw[hE]at hp;cases hp
     ·cases hv
    ·cases hv
   ·cases hv
  ·cases hv
theorem SB {vs:List TV} {xs:List Value} (H:dP c ρ F h vs xs):VR c ρ F h (VF vs) (eu xs):=by
 match vs,xs,H with
 |[],xs,H=>rw[H.bG];exact .jg .nil
 |[v],xs,H=>
  obtain⟨x,m,rfl,h1,h2⟩:=H.aO;rw[h2.bG];exact h1
 |v::w::l,xs,H=>
  obtain⟨x,m,rfl,h1,h2⟩:=H.aO;obtain⟨y,m',rfl,h3,h4⟩:=h2.aO;exact .jg (by simpa using dP.cons h1 (.cons h3 h4))
theorem VC.OY (L:cD T E) {g:FuncId} {fn:Func} {code:Code} {c0:Nat} {args:List TV} {o0:Ob} {R:TV→Ob→Nat→Prop} (hf:E.func g=some fn)
 (ho:∀base ρ F h S cq,Mem (Iu base ρ F o0 c0 h S) ρ F o0 c0 h→dP c0 ρ F h args cq→E.rF base g cq h=none) (hb:fn.body=some code) (hlen:Nat.ble args.length fn.ntmps=true)
 (dF:List Nat) (hw:wp T (VC E) fn.ntmps c0 dF code (rT 0 args) o0 c0 (Lm T c0 fn.results.toList R)):VC E g c0 args o0 R:=by
 intro base ρ F h S0 cq HN H HO OZ;obtain⟨S,hn⟩:=FZ OZ (aW.1 hlen);obtain⟨ex,xr,h',f',o',c',ρ',F',⟨n0,hr⟩,hq,M',S',KZ⟩:=ZK (X:=Iu base ρ F o0 c0 h S0) L HN code hw H S hn;unfold Lm at hq
 have fin:∀{vs:List TV} {sh:List Nat} {ids:List (Option Nat)} {U:List Nat} {r:TV} {o1:Ob},(ex= .normal∨ex= .ret)→Fq T f' o' fn.results.toList=some vs→(jf c' ids&&qd c0 0 ids&&nu ids U)=true→Y9 ids (cO sh o') (VF vs) r→JY ids (cO sh o') U o1→R r o1 ids.length→
  ∃n v h2 ρ' F' r o' c',iK E base n g cq h=some (v,h2)∧R r o' c'∧Mem (Iu base ρ F o0 c0 h S0) ρ' F' o' c' h2∧VR c' ρ' F' h2 r v:=by
  intro vs sh ids U r o1 hex rJ hi hle hO hR;simp only[Bool.and_eq_true]at hi;obtain⟨xs,k1,k2⟩:=zj L M' S' rJ;obtain⟨F1,S1⟩:=kz M' sh;have M2:=S1.mem.le hi.1.1 hi.1.2 hi.2 hO;refine⟨n0,eu xs,h',_,F1,r,o1,ids.length,?_,hR,M2,qV S1.mem _ _ _ hle (S1.bA _ _ (SB k2))⟩;unfold iK fY;rw[hf];simp only[Option.bind_some,ho _ _ _ _ _ _ H OZ,hb,←OZ.1,hlen,bO];have ni:=hr n0 (Nat.le_refl _);have Ng:aX E base n0 code (AF.enter cq fn.ntmps) h=some (ex,xr,h'):=ni;rw[Ng];rcases hex with rfl |rfl<;>simp[k1]
 cases ex with
 |exit id=>exact hq.elim
 |normal=>
  simp only at hq;split at hq
  ·rename_i vs rJ;obtain⟨sh,ids,U,r,o1,⟨hle,hO,hi⟩,hR⟩:=hq;exact fin (.inl rfl) rJ hi hle hO hR
  ·exact hq.elim
 |ret=>
  simp only at hq;split at hq
  ·rename_i vs rJ;obtain⟨sh,ids,U,r,o1,⟨hle,hO,hi⟩,hR⟩:=hq;exact fin (.inr rfl) rJ hi hle hO hR
  ·exact hq.elim
theorem VC.enter (L:cD T E) {g:FuncId} {fn:Func} {code:Code} {c0:Nat} {args:List TV} {o0:Ob} {R:TV→Ob→Nat→Prop} (hf:E.func g=some fn) (ho:∀b a,E.rF b g a=fun _=>none) (hb:fn.body=some code) (hlen:Nat.ble args.length fn.ntmps=true)
 (dF:List Nat) (hw:wp T (VC E) fn.ntmps c0 dF code (rT 0 args) o0 c0 (Lm T c0 fn.results.toList R)):VC E g c0 args o0 R:=
 VC.OY L hf (fun _ _ _ _ _ _ _ _=>congrFun (ho _ _) _) hb hlen dF hw
theorem VC.mono {g:FuncId} {c0:Nat} {args:List TV} {o0:Ob} {R R':TV→Ob→Nat→Prop} (H:VC E g c0 args o0 R) (hR:∀r o c,R r o c→R' r o c):VC E g c0 args o0 R':=by
 intro base ρ F h S cq hN hM hO hA;obtain⟨n,v,h',ρ',F',r,o',c',h1,h2,h3⟩:=H base ρ F h S cq hN hM hO hA;exact⟨n,v,h',ρ',F',r,o',c',h1,hR _ _ _ h2,h3⟩
theorem VC.rF {g:FuncId} {c0:Nat} {args:List TV} {o0:Ob} {v:Value} (hf:(E.func g).isSome=true) (ho:∀b a h,a.length=args.length→E.rF b g a h=some (v,h)) (hp:aB v=true):VC E g c0 args o0 (fun r o c=>r= .s v∧o=o0∧c=c0):=by
 intro base ρ F h S cq hN hM hO hA;obtain⟨fn,hf⟩:=Option.isSome_iff_exists.1 hf;refine⟨0,v,h,ρ,F,.s v,o0,c0,?_,⟨rfl,rfl,rfl⟩,hM,.s hp⟩;unfold iK fY;rw[hf];simp only[Option.bind_some,ho _ cq h hA.1.symm]
end
section
variable {E:Env}
def O0 (sub:TypeId→Option (List Nat)) (E:Env):List Field→Nat→Option (List Nat)
 |[],_=>some []
 |f::fs,off=>bO (f.name != "_"&&Nat.beq f.offset off)<|(sub f.type).bind fun ks=>(fa E f.type).bind fun s=>bO (Nat.beq s.2 ks.length)<|(O0 sub E fs (off+ks.length)).bind fun r=>some (ks++r)
def Yl (E:Env):Nat→TypeId→Option (List Nat)
 |0,_=>none
 |d+1,t=>(E.desc t).bind fun ds=>match ds with
  | .bool=>some [1]
  | .int k=>some [eE k]
  | .string=>some [2]
  | .struct fields=>bO (E.tu t) (O0 (Yl E d) E fields.toList 0)
  |_=>none
def nz:List Nat→List Value→List Value→Option Bool
 |[],[],[]=>some true
 |k::ks,v::l,w::m=>(match Nat.blt 0 k&&Nat.beq (bk v) k&&Nat.beq (bk w) k with
  |true=>(match nz ks l m with|some r=>some (nQ v w&&r)|none=>none)
  |false=>none)
 |_,_,_=>none
theorem O1:∀{zs:List Value} {xs ys:List TV} {r:Bool},nq zs xs ys=some r→nz (zs.map bk) (xs.map VT) (ys.map VT)=some r
 |[],[],[],r,h=>by simpa[nq,nz]using h
 |[],[],_::_,r,h=>by simp[nq]at h
 |[],x::l,ys,r,h=>by simp[nq]at h
 |z::zs,[],ys,r,h=>by simp[nq]at h
 |z::zs,x::l,[],r,h=>by cases x<;>simp[nq]at h
 |z::zs,x::l,y::m,r,h=>by
  cases x<;>try(simp[nq]at h;done)
  rename_i v;cases y<;>try(simp[nq]at h;done)
  rename_i w;simp only[nq]at h;simp only[List.map_cons,nz];cases hc:(Nat.blt 0 (bk z)&&Nat.beq (bk v) (bk z)&&Nat.beq (bk w) (bk z))with
  |false=>rw[hc]at h;cases h
  |true=>
   rw[hc]at h;simp only at h;cases hq:nq zs l m with
   |none=>rw[hq]at h;cases h
   |some r'=>
    rw[hq]at h;have lT:(Nat.blt 0 (bk z)&&Nat.beq (bk (VT (.s v))) (bk z)&&Nat.beq (bk (VT (.s w))) (bk z))=true:=hc;rw[lT,O1 hq];exact h
theorem wK:∀{ks V9:List Nat} {l l' m m':List Value},l.length=ks.length→m.length=ks.length→nz (ks++V9) (l++l') (m++m')=(nz ks l m).bind fun a=>(nz V9 l' m').bind fun b=>some (a&&b)
 |[],V9,[],l',[],m',_,_=>by simp[nz]
 |k::ks,V9,v::l,l',w::m,m',h1,h2=>by
  simp only[List.cons_append,nz];rw[wK (by simpa using h1) (by simpa using h2)];split
  ·cases nz ks l m<;>cases nz V9 l' m'<;>simp[Bool.and_assoc]
  ·rfl
 |[],_,_::_,_,_,_,h1,_=>by simp at h1
 |[],_,[],_,_::_,_,_,h2=>by simp at h2
 |_::_,_,[],_,_,_,h1,_=>by simp at h1
 |_::_,_,_::_,_,[],_,_,h2=>by simp at h2
theorem zk:∀{ks:List Nat} {l m:List Value} {r:Bool},nz ks l m=some r→l.length=ks.length∧m.length=ks.length
 |[],[],[],r,_=>⟨rfl,rfl⟩
 |[],[],_::_,r,h=>by simp[nz]at h
 |[],_::_,_,r,h=>by simp[nz]at h
 |_::_,[],_,r,h=>by simp[nz]at h
 |_::_,_::_,[],r,h=>by simp[nz]at h
 |k::ks,v::l,w::m,r,h=>by
  simp only[nz]at h;split at h
  ·split at h
   ·rename_i hq;obtain⟨h1,h2⟩:=zk hq;exact⟨by simp[h1],by simp[h2]⟩
   ·cases h
  ·cases h
def Wa (agg:Bool) (l:List Value):Value:=match agg,l with
 |true,l=>.agg l.toArray
 |false,v::_=>v
 |false,[]=>undef
theorem O2 (k:IntKind):3≤eE k:=by cases k<;>simp[eE]
theorem F4 {k k':IntKind} (h:eE k=eE k'):k=k':=by cases k<;>cases k'<;>simp[eE]at h<;>rfl
theorem O3:∀(d:Nat) {t:TypeId} {ks:List Nat} {l m:List Value} {r:Bool},Yl E d t=some ks→nz ks l m=some r→∃ds,E.desc t=some ds∧
 (∀s,fa E t=some s→s.1=isAgg ds)∧xi E d t (Wa (isAgg ds) l) (Wa (isAgg ds) m)=some r
 |0,t,ks,l,m,r,h,_=>by simp[Yl]at h
 |d+1,t,ks,l,m,r,h,hv=>by
  unfold Yl at h;simp only[Option.bind_eq_some_iff]at h;obtain⟨ds,h1,h2⟩:=h;have hl:=zk hv;have Wb:∀{k:Nat},ks=[k]→isAgg ds=false→(∀v w:Value,bk v=k→bk w=k→xi E (d+1) t v w=some (nQ v w))→∃ds,E.desc t=some ds∧(∀s,fa E t=some s→s.1=isAgg ds)∧xi E (d+1) t (Wa (isAgg ds) l) (Wa (isAgg ds) m)=some r:=by
   rintro k rfl ha hq;refine⟨ds,h1,fun s hs=>?_,?_⟩
   ·unfold fa at hs;rw[h1]at hs;simp only[Option.bind_some,ha,cond_false,Option.some.injEq]at hs;subst hs;exact ha.symm
   ·rw[ha]
    match l,m,hl with
    |[v],[w],_=>
     simp only[nz]at hv;split at hv
     ·rename_i hc;simp only[Bool.and_eq_true,beq_iff]at hc;simp only[Bool.and_true]at hv;rw[←hv];exact hq v w hc.1.2 hc.2
     ·cases hv
  split at h2
  ·cases h2;refine Wb rfl rfl fun v w hk kH=>?_;cases v<;>simp[bk]at hk<;>try(rename_i i _;cases i<;>simp[eE]at hk;done)
   cases w<;>simp[bk]at kH<;>try(rename_i i _;cases i<;>simp[eE]at kH;done)
   simp[xi,h1,nQ]
  ·rename_i k;cases h2;refine Wb rfl rfl fun v w hk kH=>?_;have hp:=O2 k;cases v<;>simp[bk]at hk<;>try omega
   cases w<;>simp[bk]at kH<;>try omega
   rw[F4 hk,F4 kH];simp[xi,h1,nQ]
  ·cases h2;refine Wb rfl rfl fun v w hk kH=>?_;cases v<;>simp[bk]at hk<;>try(rename_i i _;cases i<;>simp[eE]at hk;done)
   cases w<;>simp[bk]at kH<;>try(rename_i i _;cases i<;>simp[eE]at kH;done)
   simp[xi,h1,nQ]
  ·rename_i fields;rw[aj]at h2;obtain⟨he,hF⟩:=h2;refine⟨_,h1,fun s hs=>?_,?_⟩
   ·unfold fa at hs;rw[h1]at hs;simp only[Option.bind_some,isAgg,cond_true,Option.bind_eq_some_iff]at hs;obtain⟨n,_,h4⟩:=hs;cases h4;rfl
   ·have key:∀(fs:List Field) (off:Nat) (ks:List Nat) (l0 m0 l m:List Value) (r:Bool),O0 (Yl E d) E fs off=some ks→l0.length=off→m0.length=off→nz ks l m=some r→HF (pS E) (xi E d) (l0++l) (m0++m) fs=some r:=by
     intro fs
     induction fs with
     |nil=>
      intro off ks l0 m0 l m r hc _ _ hv;simp[O0]at hc;subst hc;cases l<;>cases m<;>simp[nz]at hv;simp[HF,hv]
     |cons f fs ih=>
      intro off ks l0 m0 l m r hc mP HK hv;simp only[O0,aj,Bool.and_eq_true,beq_iff,Option.bind_eq_some_iff,Option.some.injEq]at hc;obtain⟨⟨hn,Wc⟩,k1,SC,s,hs,gB,k2,HC,rfl⟩:=hc;obtain⟨vd,HH⟩:=zk hv;rw[List.length_append]at vd HH;have el:l=l.take k1.length++l.drop k1.length:=(List.take_append_drop _ _).symm;have em:m=m.take k1.length++m.drop k1.length:=(List.take_append_drop _ _).symm;have tl:(l.take k1.length).length=k1.length:=by simp;omega
      have tm:(m.take k1.length).length=k1.length:=by simp;omega
      rw[el,em,wK tl tm]at hv;simp only[Option.bind_eq_some_iff,Option.some.injEq]at hv;obtain⟨r1,qQ,r2,Ng,rfl⟩:=hv;obtain⟨ds',_,ZR,VU⟩:=O3 d SC qQ;generalize isAgg ds'=agg at ZR VU;have iB:=ZR s hs;have part:∀(x0 x:List Value),x0.length=off→k1.length≤x.length→pS E f.type (x0++x) f.offset=some (Wa agg (x.take k1.length)):=by
       intro x0 x tJ hx;unfold pS;rw[hs];simp only[Option.bind_some];rw[Wc,←tJ,List.drop_left,gB];have ht:takeN k1.length x=some (x.take k1.length):=by rw[bo];exact⟨hx,rfl⟩
       rw[ht,iB];cases agg with
       |true=>rfl
       |false=>
        have:s.2=1:=by
         obtain⟨a,n⟩:=s;simp only at iB;subst iB;unfold fa at hs;simp only[Option.bind_eq_some_iff]at hs;obtain⟨dd,_,h5⟩:=hs;cases Y2:isAgg dd with
         |true=>
          rw[Y2]at h5;simp only[cond_true,Option.bind_eq_some_iff]at h5;obtain⟨_,_,h6⟩:=h5;cases h6
         |false=>rw[Y2]at h5;cases h5;rfl
        have hk:k1.length=1:=by omega
        rw[hk]at hx ⊢
        match x,hx with
        |v::x',_=>simp[c8,Wa]
      simp only[HF,aj];refine⟨hn,?_⟩;rw[part l0 l mP om,part m0 m HK om];simp only[Option.bind_some,VU];have:=ih (off+k1.length) k2 (l0++l.take k1.length) (m0++m.take k1.length) (l.drop k1.length) (m.drop k1.length) r2 HC (by rw[List.length_append,mP,tl]) (by rw[List.length_append,HK,tm]) Ng;rw[List.append_assoc,List.append_assoc,←el,←em]at this;cases r1 with
      |true=>simp only[Bool.true_and];exact this
      |false=>rfl
    have:=key fields.toList 0 ks [] [] l m r hF rfl rfl hv;simp only[List.nil_append]at this;show xi E (d+1) t (.agg l.toArray) (.agg m.toArray)=some r;unfold xi;rw[h1];simp only[Option.bind_some,aj];exact⟨he,this⟩
  ·cases h2
def vH:List Nat→List Nat→Bool
 |[],[]=>true
 |a::l,b::m=>Nat.beq a b&&vH l m
 |_,_=>false
theorem BV:∀{a b:List Nat},vH a b=true→a=b
 |[],[],_=>rfl
 |[],_::_,h=>by simp[vH]at h
 |_::_,[],h=>by simp[vH]at h
 |x::a,y::b,h=>by
  simp only[vH,Bool.and_eq_true,beq_iff]at h;rw[h.1,BV h.2]
def F5 (E:Env) (t:TypeId):Bool:=E.tu t&&(match E.desc t,Yl E 100 t,E.zero t with
 |some d,some ks,some (.agg a)=>isAgg d&&vH (a.toList.map bk) ks
 |_,_,_=>false)
theorem lV {n:Nat}:∀{l:List Nat},jx n l=true→n∈l
 |[],h=>by simp[jx]at h
 |m::l,h=>by
  unfold jx at h;split at h
  ·rename_i e;rw[beq_iff]at e;simp[e]
  ·exact List.mem_cons_of_mem _ (lV h)
def tES (E:Env) (l st:List Nat):Env:={E with tu:=fun t=>jx t l,still:=fun g=>jx g st}
def tE (E:Env) (l:List Nat):Env:=tES E l []
theorem O4 {l st:List Nat} (hz:∀t z,E.zero t=some z→fC z=true) (hl:l.all (F5 E)=true) (bR:∀g,jx g st=true→yV E g):cD (tES E l st) E:=by
 refine⟨fun _ _ h=>h,fun _ _ h=>h,fun _ _ h=>h,fun t z h=>⟨h,hz t z h⟩,fun t a b z xs ys r he hzt hr ha hb=>?_,fun _ _ h=>h,bR⟩;have gT:=List.all_eq_true.1 hl t (lV he);unfold F5 at gT;simp only[Bool.and_eq_true]at gT;obtain⟨h1,h2⟩:=gT;refine⟨h1,?_⟩;have ac8:E.zero t=some z:=hzt;split at h2
 ·rename_i dd ks a0 hd hk BL;simp only[Bool.and_eq_true]at h2;rw[ac8,Option.some.injEq]at BL;subst BL;have xH:=BV h2.2;have hv:=O1 hr;simp only[Value.cells]at hv;rw[xH,←ha,←hb]at hv;obtain⟨ds,dS,_,VU⟩:=O3 100 hk hv;rw[hd]at dS;cases dS;rw[h2.1]at VU;simpa[Wa]using VU
 ·cases h2
theorem ZS {l:List Nat} (hz:∀t z,E.zero t=some z→fC z=true) (hl:l.all (F5 E)=true):cD (tE E l) E:=O4 hz hl fun g h=>by simp[jx]at h
end
def ints (l:List Int):List (List TV):=l.map fun n=>[.s (.int .i64 n)]
inductive Sh where
 |bool
 |int (k:IntKind)
 |str
 |sl (e:List Sh)
mutual
def Fit:Sh→TV→Prop
 | .bool,t=>∃b,t= .s (.bool b)
 | .int k,t=>∃n,k.min≤n∧n≤k.max∧t= .s (.int k n)
 | .str,t=>∃s:ByteArray,s.size≤maxLen∧t= .s (.string s)
 | .sl e,t=>∃es:List (List TV),es.length≤maxLen∧(∀r∈es,Fits e r)∧t= .sl e.length es false
def Fits:List Sh→List TV→Prop
 |[],l=>l=[]
 |s::ss,l=>∃t r,l=t::r∧Fit s t∧Fits ss r
end
theorem Fit.fz {s:Sh} {t:TV} (h:Fit s t):M.fz t=true:=by
 cases s with
 |bool=>simp only[Fit]at h;obtain⟨b,rfl⟩:=h;rfl
 |int k=>simp only[Fit]at h;obtain⟨n,_,_,rfl⟩:=h;rfl
 |str=>simp only[Fit]at h;obtain⟨n,_,rfl⟩:=h;rfl
 |sl e=>simp only[Fit]at h;obtain⟨es,_,_,rfl⟩:=h;rfl
theorem Fits.fz:∀{ss:List Sh} {l:List TV},Fits ss l→∀t∈l,M.fz t=true
 |[],l,h,t,ht=>by simp only[Fits]at h;subst h;cases ht
 |s::ss,l,h,t,ht=>by
  simp only[Fits]at h;obtain⟨t0,r,rfl,h1,h2⟩:=h;rcases List.mem_cons.1 ht with rfl |ht
  ·exact h1.fz
  ·exact Fits.fz h2 t ht
theorem Fits.length:∀{ss:List Sh} {l:List TV},Fits ss l→l.length=ss.length
 |[],l,h=>by simp only[Fits]at h;subst h;rfl
 |s::ss,l,h=>by
  simp only[Fits]at h;obtain⟨t0,r,rfl,h1,h2⟩:=h;simp[Fits.length h2]
theorem Fits.append:∀{ss O5:List Sh} {l l':List TV},Fits ss l→Fits O5 l'→Fits (ss++O5) (l++l')
 |[],O5,l,l',h,h'=>by simp only[Fits]at h;subst h;exact h'
 |s::ss,O5,l,l',h,h'=>by
  simp only[Fits]at h;obtain⟨t0,r,rfl,h1,h2⟩:=h;simp only[List.cons_append,Fits];exact⟨_,_,rfl,h1,Fits.append h2 h'⟩
def uj (P:Program) (f:TypeId→List Sh→Bool):List Field→Nat→List Sh→Bool
 |[],_,ss=>ss.isEmpty
 |x::xs,o,ss=>Nat.beq x.offset o&&Nat.ble (P.cellsOf x.type) ss.length&&f x.type (ss.take (P.cellsOf x.type))&&uj P f xs (o+P.cellsOf x.type) (ss.drop (P.cellsOf x.type))
def O6 (f:List Sh→Bool) (z:Nat):Nat→List Sh→Bool
 |0,ss=>ss.isEmpty
 |n+1,ss=>Nat.ble z ss.length&&f (ss.take z)&&O6 f z n (ss.drop z)
def Rb (P:Program):Nat→TypeId→List Sh→Bool
 |0,_,_=>false
 |n+1,t,ss=>match P.underlying t with
  |some .bool=>(match ss with|[.bool]=>true|_=>false)
  |some (.int k)=>(match ss with|[.int k']=>decide (k'=k)|_=>false)
  |some .string=>(match ss with|[.str]=>true|_=>false)
  |some (.slice e)=>(match ss with|[.sl es]=>Nat.beq (P.cellsOf e) es.length&&Nat.blt 0 es.length&&Rb P n e es|_=>false)
  |some (.struct fs)=>Nat.beq (P.cellsOf t) ss.length&&uj P (Rb P n) fs.toList 0 ss
  |some (.array m e)=>Nat.beq (P.cellsOf t) ss.length&&O6 (Rb P n e) (P.cellsOf e) m ss
  |_=>false
structure AR (W:World) (μ:bx) (h:ab):Prop where
 high:∀b,h.size≤b→h.get b=none
 all:∀b,b<h.size→∃cs,h.get b=some (.cells cs b (b+1) 0)
 gS:∀b m,μ b=some m→b<h.size
 obj:∀b m,μ b=some m→∃cs c e fr,h.get b=some (.cells cs b (b+1) 0)∧W.heap[m.r]? =some (.cells c e fr)∧c.size=m.n∧m.s+cs.length≤m.n∧
  ∀(i:Nat) v,cs[i]? =some v→∃v',c[m.s+i]? =some v'∧ar μ v v'
def Grown (h h':ab):Prop:=h.size≤h'.size∧∀b,b<h.size→h'.get b=h.get b
theorem Grown.refl (h:ab):Grown h h:=⟨Nat.le_refl _,fun _ _=>rfl⟩
theorem Grown.trans {a b c:ab} (h:Grown a b) (k:Grown b c):Grown a c:=⟨Nat.le_trans h.1 k.1,fun x hx=>by rw[k.2 x (Nat.lt_of_lt_of_le hx h.1),h.2 x hx]⟩
theorem AR.rd {W:World} {μ:bx} {h:ab} (_:AR W μ h) {b:Nat} {cs:List Value} (hg:h.get b=some (.cells cs b (b+1) 0)):h.rd b=some cs:=
 eW (cG hg hg) (Nat.zero_le _) (by unfold ab.cellsOf;rw[hg])
theorem AR.O7 {W:World} {μ a7:bx} {h h':ab} (H:AR W μ h) (H':AR W a7 h') (g:Grown h h') {b:Nat} {cs:List Value} (hb:b<h.size) (hr:h.rd b=some cs):h'.rd b=some cs:=by
 obtain⟨Kg,hg⟩:=H.all b hb;have e:=H.rd hg;rw[hr]at e;cases e;exact H'.rd (by rw[g.2 b hb,hg])
theorem AR.xV {W:World} {μ a7:bx} {h h':ab} (H:AR W μ h) (H':AR W a7 h') (g:Grown h h') {t:TV} {v:Value} (hv:VR 0 xM (· <h.size) h t v):VR 0 xM (· <h'.size) h' t v:=
 hv.mono (Nat.le_refl _) (fun _ _ _ hx=>hx) (fun _ _ hx=>hx) (fun _ hb=>Nat.lt_of_lt_of_le hb g.1) fun _ _ hb hr=>H.O7 H' g hb hr
def Laid (W:World) (ss:List Sh) (cs:List Value):Prop:=∀μ h,AR W μ h→∃a7 h' BW vs,AR W a7 h'∧μ.le a7∧Grown h h'∧Fits ss BW∧dP 0 xM (· <h'.size) h' BW vs∧aA a7 vs cs
theorem Laid.nil (W:World):Laid W [] []:=fun μ h H=>⟨μ,h,[],[],H,μ.le_refl,.refl h,by simp[Fits],.nil,.nil⟩
theorem Laid.append {W:World} {ss O5:List Sh} {cs cs':List Value} (h1:Laid W ss cs) (h2:Laid W O5 cs'):Laid W (ss++O5) (cs++cs'):=by
 intro μ h H;obtain⟨gP,k1,t1,v1,H1,l1,g1,f1,r1,x1⟩:=h1 μ h H;obtain⟨wb,k2,t2,v2,H2,l2,g2,f2,r2,x2⟩:=h2 gP k1 H1;exact⟨wb,k2,t1++t2,v1++v2,H2,bx.le_trans l1 l2,g1.trans g2,f1.append f2,(r1.rU fun _ _ hv=>H1.xV H2 g2 hv).append r2,(x1.mono l2).append x2⟩
theorem Laid.scalar {W:World} {s:Sh} {v:Value} (hp:aB v=true) (hf:Fit s (.s v)):Laid W [s] [v]:=fun μ h H=>
 ⟨μ,h,[.s v],[v],H,μ.le_refl,.refl h,by simp only[Fits];exact⟨_,_,rfl,hf,rfl⟩,.cons (.s hp) .nil,.cons (.lit hp) .nil⟩
theorem Laid.rows {W:World} {e:List Sh}:∀{rows:List (List Value)},(∀r∈rows,Laid W e r)→∀μ h,AR W μ h→∃(a7:bx) (h':ab) (es:List (List TV)) (vs:List Value),AR W a7 h'∧μ.le a7∧Grown h h'∧es.length=rows.length∧(∀r∈es,Fits e r)∧
 dP 0 xM (· <h'.size) h' es.flatten vs∧aA a7 vs rows.flatten
 |[],_,μ,h,H=>⟨μ,h,[],[],H,μ.le_refl,.refl h,rfl,by simp,.nil,.nil⟩
 |r::rows,hr,μ,h,H=>by
  obtain⟨gP,k1,t1,v1,H1,l1,g1,f1,r1,x1⟩:=hr r List.mem_cons_self μ h H;obtain⟨wb,k2,es,v2,H2,l2,g2,n2,f2,r2,x2⟩:=Laid.rows (rows:=rows) (fun r' h'=>hr r' (List.mem_cons_of_mem _ h')) gP k1 H1;refine⟨wb,k2,t1::es,v1++v2,H2,bx.le_trans l1 l2,g1.trans g2,by simp[n2],?_,?_,?_⟩
  ·intro r' ni;rcases List.mem_cons.1 ni with rfl |ni
   ·exact f1
   ·exact f2 r' ni
  ·rw[List.flatten_cons];exact(r1.rU fun _ _ hv=>H1.xV H2 g2 hv).append r2
  ·rw[List.flatten_cons];exact(x1.mono l2).append x2
theorem zl {α:Type} {z:Nat}:∀{es:List (List α)},(∀e∈es,e.length=z)→∀(i j:Nat) e t,es[i]? =some e→e[j]? =some t→es.flatten[i*z+j]? =some t
 |[],_,i,j,e,t,h,_=>by simp at h
 |e0::es,hz,i,j,e,t,h,k=>by
  rw[List.flatten_cons];have h0:=hz e0 List.mem_cons_self;cases i with
  |zero=>
   simp at h;subst h;have:j<e0.length:=(List.getElem?_eq_some_iff.1 k).1;rw[Nat.zero_mul,Nat.zero_add,List.getElem?_append_left this,k]
  |succ i=>
   rw[List.getElem?_append_right (by rw[h0,Nat.succ_mul];omega),h0,show(i+1)*z+j - z=i*z+j by rw[Nat.succ_mul];omega];exact zl (fun e' h'=>hz e' (List.mem_cons_of_mem _ h')) i j e t (by simpa using h) k
theorem F6 {α:Type} {z:Nat}:∀{es:List (List α)},(∀e∈es,e.length=z)→es.flatten.length=es.length*z
 |[],_=>by simp
 |e0::es,hz=>by
  rw[List.flatten_cons,List.length_append,F6 (fun e' h'=>hz e' (List.mem_cons_of_mem _ h')),hz e0 List.mem_cons_self,List.length_cons,Nat.succ_mul];omega
theorem AR.push {W:World} {μ:bx} {h:ab} (H:AR W μ h) {vs cs:List Value} (hv:aA μ vs cs) {r s:Nat} {c:Array Value} {e:TypeId} {fr:Nat×Nat} (hr:W.heap[r]? =some (.cells c e fr))
 (hle:s+cs.length≤c.size) (hc:∀(i:Nat) v,cs[i]? =some v→c[s+i]? =some v):
 AR W (fun b=>if b=h.size then some ⟨r,s,c.size⟩else μ b) (h.push (.cells vs h.size (h.size+1) 0))∧μ.le (fun b=>if b=h.size then some ⟨r,s,c.size⟩else μ b):=by
 have Wd:μ.le (fun b=>if b=h.size then some ⟨r,s,c.size⟩else μ b):=fun b m hb=>by
  have:=H.gS b m hb;show(if b=h.size then _ else _)=_;rw[if_neg om,hb]
 refine⟨⟨fun b hb=>?_,fun b hb=>?_,fun b m hb=>?_,fun b m hb=>?_⟩,Wd⟩
 ·rw[ab.size_push]at hb;rw[ab.au,if_neg om];exact H.high b om
 ·rw[ab.size_push]at hb;rw[ab.au];by_cases e:b=h.size
  ·rw[if_pos e,e];exact⟨_,rfl⟩
  ·rw[if_neg e];exact H.all b om
 ·rw[ab.size_push];by_cases e:b=h.size
  ·omega
  ·rw[if_neg e]at hb;have:=H.gS b m hb;omega
 ·by_cases e:b=h.size
  ·rw[if_pos e]at hb;cases hb;refine⟨vs,c,_,_,by rw[ab.au,if_pos e,e],hr,rfl,by rw[hv.length];exact hle,fun i v hi=>?_⟩;obtain⟨v',h1,h2⟩:=hv.get hi;exact⟨v',hc i v' h1,h2.mono Wd⟩
  ·rw[if_neg e]at hb;obtain⟨Kg,c0,e0,We,q1,q2,q3,q4,q5⟩:=H.obj b m hb;exact⟨Kg,c0,e0,We,by rw[ab.au,if_neg e];exact q1,q2,q3,q4,fun i v hi=>let⟨v',h1,h2⟩:=q5 i v hi;⟨v',h1,h2.mono Wd⟩⟩
theorem AR.dummy {W:World} {μ:bx} {h:ab} (H:AR W μ h):AR W μ (h.push (.cells [] h.size (h.size+1) 0)):=by
 refine⟨fun b hb=>?_,fun b hb=>?_,fun b m hb=>?_,fun b m hb=>?_⟩
 ·rw[ab.size_push]at hb;rw[ab.au,if_neg om];exact H.high b om
 ·rw[ab.size_push]at hb;rw[ab.au];by_cases e:b=h.size
  ·rw[if_pos e,e];exact⟨_,rfl⟩
  ·rw[if_neg e];exact H.all b om
 ·rw[ab.size_push];have:=H.gS b m hb;omega
 ·have:=H.gS b m hb;obtain⟨Kg,c0,e0,We,q1,q2,q3,q4,q5⟩:=H.obj b m hb;exact⟨Kg,c0,e0,We,by rw[ab.au,if_neg om];exact q1,q2,q3,q4,q5⟩
theorem sL {h:ab} (o:fH):Grown h (h.push o):=⟨by rw[ab.size_push];omega,fun b hb=>by rw[ab.au,if_neg om]⟩
theorem Laid.slice {W:World} {e:List Sh} (he:0<e.length) {a:Addr} {len cap:Nat} (K3:len≤cap) (fK:cap≤maxLen) {base:Nat}
 (gT:∀i,i<cap→∃r,W.cells? base (a.add (i*e.length)) e.length=some r∧(i<len→Laid W e r)):Laid W [.sl e] [.slice (some a) len cap]:=by
 intro μ h H;by_cases h0:cap=0
 ·subst h0;have:len=0:=by omega
  subst this;have H':=H.dummy;refine⟨μ,_,[.sl e.length [] false],[.slice (some ⟨h.size,0,some e.length⟩) 0 0],H',μ.le_refl,sL _,?_,.cons ?_ .nil,.cons (.df fun h=>absurd rfl h) .nil⟩
  ·simp only[Fits,Fit];exact⟨_,_,rfl,⟨[],by simp,by simp,rfl⟩,rfl⟩
  ·refine .sl (b:=h.size) (o:=0) (cs:=[]) (by rw[ab.size_push];omega) ?_ he rfl (Nat.le_refl _) (fun _=>rfl) (by simp) (by simp) (by simp) (by simp);exact H'.rd (by rw[ab.au,if_pos rfl])
 ·-- the row
  have yh:∀i,i<cap→∀j,j<e.length→∃r,W.cells? base (a.add (i*e.length)) e.length=some r∧r.length=e.length∧W.cell? ((a.add (i*e.length)).add j)=r[j]? :=by
   intro i hi j hj;obtain⟨r,hr,_⟩:=gT i hi;obtain⟨_,h2,h3⟩:=World.cells?_some hr;exact⟨r,hr,h2,h3 j hj⟩
  have IP:∀k j,((a.add k).add j).block=a.block:=by intro k j;unfold Addr.add;split<;>split<;>rfl
  have Wc:∀k j,((a.add k).add j).off=a.off+k+j:=by
   intro k j;unfold Addr.add;split<;>split<;>(try simp only[])<;>omega
  have vk:((a.add (0*e.length)).add 0)=a:=by rw[Nat.zero_mul];rfl
  obtain⟨c,ty,fr,hW,O8⟩:∃c ty fr,W.heap[a.block]? =some (.cells c ty fr)∧a.spot=none:=by
   obtain⟨r,hr,h2,h3⟩:=yh 0 om 0 he;rw[vk]at h3;have:r[0]? =some r[0]:=List.getElem?_eq_getElem om;rw[this]at h3;unfold World.cell? at h3;split at h3
   ·rename_i c ty fr hc;split at h3
    ·cases h3
    ·rename_i hs;exact⟨c,ty,fr,hc,by simpa using hs⟩
   ·cases h3
  have Wg:∀k j,((a.add k).add j).spot=none:=by
   intro k j;unfold Addr.add;split<;>split<;>simp[O8]
  have fo:∀i,i<cap→∀r,W.cells? base (a.add (i*e.length)) e.length=some r→r.length=e.length∧∀(j:Nat) v,r[j]? =some v→c[a.off+i*e.length+j]? =some v:=by
   intro i hi r hr;obtain⟨_,h2,h3⟩:=World.cells?_some hr;refine⟨h2,fun j v hv=>?_⟩;have hj:j<e.length:=by rw[←h2];exact(List.getElem?_eq_some_iff.1 hv).1
   have:=h3 j hj;unfold World.cell? at this;rw[IP,hW,Wg,Wc,hv]at this;simpa using this
  have JM:a.off+cap*e.length≤c.size:=by
   obtain⟨r,hr,_⟩:=gT (cap - 1) om;obtain⟨h2,h3⟩:=fo _ om r hr;have h4:=h3 (e.length - 1) r[e.length - 1] (List.getElem?_eq_getElem om);have h5:=(Array.getElem?_eq_some_iff.1 h4).1;have:cap*e.length=(cap - 1)*e.length+e.length:=by rw[←Nat.succ_mul];congr 1;omega
   omega
  -- the elements
  let rows:=(List.range len).map fun i=>(W.cells? base (a.add (i*e.length)) e.length).getD []
  have O9:∀i,i<len→rows[i]? =W.cells? base (a.add (i*e.length)) e.length:=by
   intro i hi;obtain⟨r,hr,_⟩:=gT i om;simp only[rows,List.getElem?_map,List.getElem?_range hi,Option.map_some,hr,Option.getD_some]
  have hlen:rows.length=len:=by simp[rows]
  have hz:∀r∈rows,r.length=e.length:=by
   intro r hr;obtain⟨i,hi,rfl⟩:=List.mem_iff_getElem.1 hr;have Bn:i<len:=by omega
   obtain⟨r',ni,_⟩:=gT i om;have:=O9 i Bn;rw[ni,List.getElem?_eq_getElem hi]at this;cases this;exact(fo i om _ ni).1
  have hL:∀r∈rows,Laid W e r:=by
   intro r hr;obtain⟨i,hi,rfl⟩:=List.mem_iff_getElem.1 hr;have Bn:i<len:=by omega
   obtain⟨r',ni,hl⟩:=gT i om;have:=O9 i Bn;rw[ni,List.getElem?_eq_getElem hi]at this;cases this;exact hl Bn
  obtain⟨gP,k1,es,vs,H1,l1,g1,n1,f1,r1,x1⟩:=Laid.rows hL μ h H;have u4:=F6 hz;have tj:∀(i:Nat) v,rows.flatten[i]? =some v→c[a.off+i]? =some v:=by
   intro i v hv;have hi:=(List.getElem?_eq_some_iff.1 hv).1;rw[u4,hlen]at hi;have hq:i / e.length<len:=(Nat.div_lt_iff_lt_mul he).2 hi;have hm:i % e.length<e.length:=Nat.mod_lt _ he;have hdm:i / e.length*e.length+i % e.length=i:=by rw[Nat.mul_comm];exact Nat.div_add_mod _ _
   obtain⟨r',ni,_⟩:=gT (i / e.length) om;have h1:=O9 _ hq;rw[ni]at h1;obtain⟨q1,q2⟩:=fo _ om r' ni;have h2:r'[i % e.length]? =some r'[i % e.length]:=List.getElem?_eq_getElem om;have h3:=zl hz _ _ _ _ h1 h2;rw[hdm,hv]at h3;cases h3;have:=q2 _ _ h2;rw[show a.off+i / e.length*e.length+i % e.length=a.off+i by omega]at this;exact this
  have hle:a.off+rows.flatten.length≤c.size:=by
   rw[u4,hlen];have:=Nat.mul_le_mul_right e.length K3;omega
  obtain⟨H2,l2⟩:=H1.push x1 hW hle tj;have AV:∀r∈es,r.length=e.length:=fun r hr=>(f1 r hr).length;refine⟨_,_,[.sl e.length es false],[.slice (some ⟨k1.size,0,some e.length⟩) len cap],H2,bx.le_trans l1 l2,g1.trans (sL _),?_,.cons ?_ .nil,.cons ?_ .nil⟩
  ·simp only[Fits,Fit];exact⟨_,_,rfl,⟨es,om,f1,rfl⟩,rfl⟩
  ·have QX:vs.length=len*e.length:=by rw[x1.length,u4,hlen]
   refine .sl (b:=k1.size) (o:=0) (cs:=vs) (by rw[ab.size_push];omega) ?_ he om K3 (fun h=>by cases h) om AV (fun r hr t ht=>(f1 r hr).fz t ht) ?_
   ·exact H2.rd (by rw[ab.au,if_pos rfl])
   ·intro i j e' t v q1 q2 q3;have q4:=zl AV i j e' t q1 q2;rw[Nat.zero_add]at q3;exact H1.xV H2 (sL _) (r1.2 _ _ _ q4 q3)
  ·have:ar (fun b=>if b=k1.size then some (⟨a.block,a.off,c.size⟩:MT)else gP b) (.slice (some ⟨k1.size,0,some e.length⟩) len cap) (.slice (some ⟨a.block,a.off+0,none⟩) len cap):=
    .slice (m:=⟨a.block,a.off,c.size⟩) (by simp) K3 K3 (fun h=>h) (by simpa using JM)
   have ha:(⟨a.block,a.off+0,none⟩:Addr)=a:=by
    cases a;simp only[]at O8;subst O8;rfl
   rw[ha]at this;exact this
end Go.M
