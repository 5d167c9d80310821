/-
  Part 9 of the library that the proof leans on.
-/
import Derived.Test.YteoljjhhdgplnaaGreatDoorL8
import Derived.IntWalk
import Derived.DataReads
namespace Go.M
open Go
section
variable {T E:Env} {X:Cx} {ρ:Gh} {F:Nat→Prop} {o:Ob} {c:Nat} {af:AF} {f:Fr} {h:ab} {p:Oper} {K:OK}
theorem iY.EM {canon:Option Value} (H:Mem X ρ F o c h) (R:iY c ρ F h o canon K) (hp:aI E af p=canon):eV E X ρ F o c af h p K:=by
 obtain⟨v,x,h1,h2,h3⟩:=R;exact eV.pure H (hp.trans h1) h2 h3
theorem PX (L:ck T E) (H:Mem X ρ F o c h) {t:TypeId} {x:TV} {xv:Value} (hw:TA T t x o c K) (hx:VR c ρ F h x xv)
 (hp:∀d,E.desc t=some d→aI E af p=(match(generalizing:=false) d,xv with
  | .string,.string s=>some (goInt s.size)
  | .array n _,_=>some (goInt n)
  | .slice _,.slice _ n _=>some (goInt n)
  | .map _ _,.map none=>some (goInt 0)
  |_,_=>none))
 (hq:∀k e r,E.desc t=some (.map k e)→xv= .map (some r)→bG E af p=some (.len r)):eV E X ρ F o c af h p K:=by
 unfold TA at hw;split at hw
 ·rename_i hd;split at hw
  ·have:=hx.dF.1;subst this;exact eV.pure H (hp _ (L.desc _ _ hd)) (.s rfl) hw
  ·exact hw.elim
 ·rename_i n e hd;exact eV.pure H ((hp _ (L.desc _ _ hd)).trans (by cases xv<;>rfl)) (.s rfl) hw
 ·rename_i e hd;have arr:∀{m:Nat} {y:TO},look o m=some y→yT y=true→VR c ρ F h (.tk m) xv→K (.s (goInt (Dk y))) o c .pure→eV E X ρ F o c af h p K:=by
   intro m y hl hy hx hw;obtain⟨Sm,hO⟩:=H.b8 hl;have:∃a k,xv= .slice a (Dk y) k:=by
    rcases hO.tk hy hx with⟨h0,_,rfl |⟨b,o',cs,_,_,_,_,rfl⟩⟩|⟨b,cap,_,_,rfl⟩
    ·rw[h0];exact⟨none,0,rfl⟩
    ·rw[h0];exact⟨_,0,rfl⟩
    ·exact⟨_,_,rfl⟩
   obtain⟨a,k,rfl⟩:=this;exact eV.pure H (hp _ (L.desc _ _ hd)) (.s rfl) hw
  split at hw
  ·cases hx with
   |bg hb=>exact eV.pure H (hp _ (L.desc _ _ hd)) (.s rfl) hw
  ·rename_i m;split at hw
   ·rename_i hl;exact arr hl rfl hx hw
   ·rename_i hl;exact arr hl rfl hx hw
   ·exact hw.elim
  ·cases hx with
   |nil h1=>subst h1;exact eV.pure H (hp _ (L.desc _ _ hd)) (.s rfl) hw
   |sl q1 q2 q3 q4=>subst q4;exact eV.pure H (hp _ (L.desc _ _ hd)) (.s rfl) hw
  ·rename_i m k;split at hw
   ·rename_i hl;obtain⟨V4,hK⟩:=hw;obtain⟨Sm,hO⟩:=H.b8 hl;cases hx with
    |pv yx pF ha h0=>
    have:∃a q,xv= .slice a k q:=by
     cases hO with
     |nil hb hz=>
      have IW:k=0:=by simpa using V4
      subst IW;rcases h0 _ hb with rfl |⟨b,o',cs,_,_,_,_,rfl⟩
      ·exact⟨none,0,rfl⟩
      ·exact⟨_,0,rfl⟩
     |arr hb hg hf ht dS jL cE lS gU hc hF=>
      obtain⟨cap,_,rfl⟩:=ha _ _ _ hb;exact⟨_,_,rfl⟩
    obtain⟨a,q,rfl⟩:=this;exact eV.pure H (hp _ (L.desc _ _ hd)) (.s rfl) hK
   ·exact hw.elim
  ·exact hw.elim
 ·rename_i k e hd;split at hw
  ·have:=hx.dF.1;subst this;exact eV.pure H (hp _ (L.desc _ _ hd)) (.s rfl) hw
  ·rename_i n;split at hw
   ·rename_i kn es hl;obtain⟨Sm,hO⟩:=H.b8 hl;cases hO with
    |map hb hg hlen hc ct=>
     rename_i b clock ev;cases hx with
     |mp bL=>
      rw[hb]at bL;cases bL;have yZ:eO h b=some (ev,clock):=by unfold eO;rw[hg]
      have hE:tM c ρ F h kn es ev:=⟨hlen,hc⟩;refine ja.EM (q:=.len b) (ja.same H (by simp[RQ.run,yZ];rfl) (.s rfl) ?_ (.kS (.refl _) rfl hl (.inl hb) ⟨_,yZ,hE.refl⟩)) (hp _ (L.desc _ _ hd)) (hq _ _ _ (L.desc _ _ hd) rfl);rw[←hlen];exact hw
   ·rename_i kn es hl;obtain⟨Sm,hO⟩:=H.b8 hl;cases hO with
    |eT hb hg bU hc ct=>
     rename_i Sq b clock ev;cases hx with
     |mp bL=>
      rw[hb]at bL;cases bL;have yZ:eO h b=some (ev,clock):=by unfold eO;rw[hg]
      have hE:iy c ρ F h X.base kn Sq es ev:=hc;have hlen:es.length=ev.length:=by
       have key:∀{es:List (Value×TV)} {ev:List MapEntry} {S:Ft},iy c ρ F h X.base kn S es ev→es.length=ev.length:=by
        intro es ev S hE
        induction hE with
        |nil=>rfl
        |cons _ _ _ _ _ ih=>simp[ih]
       exact key hE
      refine ja.EM (q:=.len b) (ja.same H (by simp[RQ.run,yZ];rfl) (.s rfl) ?_ (.kS (.refl _) rfl hl (.inl hb) ⟨_,yZ,hE.refl fun e he t ht=>.inr (bU e he t ht)⟩)) (hp _ (L.desc _ _ hd)) (hq _ _ _ (L.desc _ _ hd) rfl);rw[←hlen];exact hw
   ·exact hw.elim
  ·exact hw.elim
 ·exact hw.elim
theorem iP (L:ck T E) (N:kE T F h) (S:dz c ρ F h f af) {x:Operand} {l:List Operand} (ly:l.all (qO T)=true) (hm:x∈l):∃v,ev E af x=some v∧VR c ρ F h (lN T f x) v:=pI L N S (List.all_eq_true.1 ly x hm)
theorem evO (L:ck T E) (N:kE T F h) (S:dz c ρ F h f af) {x:Option Operand} {l:List Operand} (ly:l.all (qO T)=true) (hm:∀y,x=some y→y∈l):∃v,ov E af x=some v∧PI c ρ F h (Px T f x) v:=by
 cases x with
 |none=>exact⟨none,rfl,.inl ⟨rfl,rfl⟩⟩
 |some y=>
  obtain⟨v,h1,h2⟩:=pI (E:=E) L N S (List.all_eq_true.1 ly y (hm y rfl));exact⟨some v,by simp[ov,h1],.inr ⟨_,_,rfl,rfl,h2⟩⟩
theorem Dw (L:ck T E) (H:Mem X ρ F o c h) {b:Builtin} {sq:Array Operand} {argTypes:Array TypeId} {args:List TV} {vs:List Value} {dst:Option Tmp} {ty:TypeId} {pos:String} {after:Array Edge} {guard:Option (Nat×Bool)}
 (hw:wD T b argTypes.toList args o c K) (hr:dH c ρ F h args vs) (he:EO E af sq.toList=some vs):eV E X ρ F o c af h ⟨dst,.call ⟨.builtin b,sq,argTypes⟩,ty,pos,after,guard⟩ K:=by
 have hp:aI E af ⟨dst,.call ⟨.builtin b,sq,argTypes⟩,ty,pos,after,guard⟩=pt E b argTypes.toList vs:=by simp only[aI,he,Option.bind_some]
 have eC:bc E af ⟨dst,.call ⟨.builtin b,sq,argTypes⟩,ty,pos,after,guard⟩=none:=rfl;have V6:c7 E X.base af ⟨dst,.call ⟨.builtin b,sq,argTypes⟩,ty,pos,after,guard⟩ h=(vm E X.base h b argTypes.toList vs).bind fun r=>some (.val r.1,r.2):=by simp only[c7,he,Option.bind_some]
 have fW:b≠ .len→bG E af ⟨dst,.call ⟨.builtin b,sq,argTypes⟩,ty,pos,after,guard⟩=none:=fun hb=>by
  cases b<;>first|rfl |exact absurd rfl hb
 unfold wD at hw;split at hw
 ·rename_i t ts x xs qk;obtain⟨xv,m,rfl,h1,h2⟩:=hr.aQ;refine PX L H hw h1 (fun d hd=>?_) (fun k e r hd hx=>?_)
  ·rw[hp,qk];simp only[pt,hd,Option.bind_some]
   try rfl
  ·subst hx;simp only[bG,qk,he,Option.bind_some,hd]
 ·rename_i st xt fl l qk;obtain⟨sv,m,rfl,h1,h2⟩:=hr.aQ;obtain⟨xv,m',rfl,h3,h4⟩:=h2.aQ;obtain rfl:=h4.bK;have hxv:=h3.dF.1;subst hxv;refine Du L H hw h1 (by rw[hp,qk];rfl) (fW (by simp)) eC fun v h' hh=>?_;rw[V6,qk];show(match bD E X.base h st xt sv (.int .i64 l)with|some r=>some r|none=>im E h st xt sv (.int .i64 l)).bind _=_;have Cl:bD E X.base h st xt sv (.int .i64 l)=none:=by
   unfold bD;cases E.desc st with
   |none=>rfl
   |some sd=>cases E.desc xt with
    |none=>rfl
    |some xd=>
     cases sd<;>try rfl
     rename_i elem;simp only[Option.bind_some];cases E.size elem<;>try rfl
     cases E.bytes elem<;>try rfl
     cases E.zero elem<;>rfl
  rw[Cl,hh];rfl
 ·rename_i st xt s x _ qk;obtain⟨sv,m,rfl,h1,h2⟩:=hr.aQ;obtain⟨xv,m',rfl,h3,h4⟩:=h2.aQ;obtain rfl:=h4.bK;refine FT L H hw h1 h3 (by rw[hp,qk];rfl) (fW (by simp)) eC fun v h' hh=>?_;rw[V6,qk];show(match bD E X.base h st xt sv xv with|some r=>some r|none=>im E h st xt sv xv).bind _=_;rw[hh];rfl
 ·rename_i ts k x k' y;obtain⟨sv,m,rfl,h1,h2⟩:=hr.aQ;obtain⟨xv,m',rfl,h3,h4⟩:=h2.aQ;obtain rfl:=h4.bK;rw[h1.dF.1,h3.dF.1]at hp;exact eV.pure H (x:=.int k (if y>x then y else x)) (by rw[hp];rfl) (.s rfl) hw
 ·rename_i ts k x k' y;obtain⟨sv,m,rfl,h1,h2⟩:=hr.aQ;obtain⟨xv,m',rfl,h3,h4⟩:=h2.aQ;obtain rfl:=h4.bK;rw[h1.dF.1,h3.dF.1]at hp;exact eV.pure H (x:=.int k (if y<x then y else x)) (by rw[hp];rfl) (.s rfl) hw
 ·rename_i t ts fl qk;obtain⟨sv,m,rfl,h1,h2⟩:=hr.aQ;obtain rfl:=h2.bK;split at hw
  ·rename_i e hd;have:sv= .slice none 0 0:=by
    cases h1 with
    |nil=>rfl
    |sl q1 q2 q3=>omega
   subst this;refine eV.pure H (x:=goInt 0) ?_ (.s rfl) hw;rw[hp,qk];simp only[pt,L.desc _ _ hd,Option.bind_some]
  ·exact hw.elim
 ·rename_i t ts m k qk;obtain⟨mv,m1,rfl,h1,h2⟩:=hr.aQ;obtain⟨kv,m',rfl,h3,h4⟩:=h2.aQ;obtain rfl:=h4.bK;refine FN L H hw h1 h3 (by rw[hp,qk];rfl) (fW (by simp)) eC ?_;rw[V6,qk];rfl
 ·rename_i t ts m i args qk;obtain⟨xv,m1,rfl,h1,h2⟩:=hr.aQ;split at hw
  ·rename_i elem hd;split at hw
   ·rename_i zv z es hz hl;split at hw
    ·rename_i zs jj;split at hw
     ·rename_i hc;refine FO L H hd hz hl jj hc hw h1 (by rw[hp,qk];rfl) (fW (by simp)) eC ?_;rw[V6,qk];rfl
     ·exact hw.elim
    ·exact hw.elim
   ·exact hw.elim
  ·exact hw.elim
 ·rename_i t ts n args qk;obtain⟨mv,m1,rfl,h1,h2⟩:=hr.aQ;split at hw
  ·rename_i d kn es hd hl;refine zJ H hl (.inl ⟨_,rfl⟩) hw h1 (by rw[hp,qk];rfl) (fW (by simp)) eC (by rw[L.desc _ _ hd];rfl) ?_ (t:=t);rw[V6,qk];rfl
  ·rename_i d kn es op hd hl;refine zJ H hl (.inr ⟨_,_,rfl⟩) hw h1 (by rw[hp,qk];rfl) (fW (by simp)) eC (by rw[L.desc _ _ hd];rfl) ?_ (t:=t);rw[V6,qk];rfl
  ·exact hw.elim
 ·exact hw.elim
theorem Dx (s:ByteArray):(CX s).length=s.size:=by simp[CX]
theorem Mn {c:Nat} {ρ:Gh} {F:Nat→Prop} {h:ab}:∀{ns:List Int} {vs:List Value},dH c ρ F h (bM ns).flatten vs→vs=ns.map (Value.int .u8)
 |[],vs,H=>H.bK
 |n::ns,vs,H=>by
  obtain⟨v,mZ,rfl,h1,h2⟩:=H.aQ;rw[h1.dF.1,Mn h2];rfl
theorem HS:∀ns:List Int,K5 (ns.map (Value.int .u8))=some ns
 |[]=>rfl
 |n::ns=>by simp only[List.map_cons,K5,HS ns,Option.bind_some]
theorem Dy (L:ck T E) (H:Mem X ρ F o c h) {s d:TypeId} {x:TV} {xv:Value} (hw:wG T s d x o c K) (hx:VR c ρ F h x xv)
 (hp:aI E af p=p9 E s d xv) (hq:bG E af p=none) (eC:bc E af p=none) (he:c7 E X.base af p h=(qt E X.base h s d xv).bind fun r=>some (.val r.1,r.2)):eV E X ρ F o c af h p K:=by
 unfold wG at hw;split at hw
 ·rename_i v;have:=hx.dF.1;subst this;split at hw
  ·rename_i str e hd;split at hw
   ·rename_i sd ed hs hed;split at hw
    ·rename_i hu;have O7:aI E af p=none:=by rw[hp];simp[p9,L.desc _ _ hs,L.desc _ _ hd]
     have E1:ER c ρ F h 1 (CX str) (ft str):=by
      refine⟨by simp[CX,ft],fun e he=>?_,fun e he t ht=>?_,fun i j e t v q1 q2 q3=>?_⟩
      ·simp only[CX,List.mem_map]at he;obtain⟨b,_,rfl⟩:=he;rfl
      ·simp only[CX,List.mem_map]at he;obtain⟨b,_,rfl⟩:=he;simp at ht;subst ht;rfl
      ·simp only[CX,List.getElem?_map,Option.map_eq_some_iff]at q1;obtain⟨b,q1,rfl⟩:=q1;cases j with
       |succ j=>simp at q2
       |zero=>
        simp at q2;subst q2;simp only[ft,List.getElem?_map,Nat.mul_one,Nat.add_zero,q1,Option.map_some,Option.some.injEq]at q3;subst q3;exact .s rfl
     obtain⟨M2,k2⟩:=H.Bs E1 om;refine eV.dp (x:=.slice (some ⟨h.size,0,some 1⟩) str.size (str.size+1)) (h':=h.push (.cells (ft str) h.size h.size 0)) H O7 hq eC (by rw[he];simp[qt,L.desc _ _ hs,L.desc _ _ hd,L.desc _ _ hed,hu,bC,fresh]) ⟨M2,k2,by show h.size≤h.size+1;omega,fun _ hb=>hb,fun b cs hb hr=>(eB H.wf.le _ (H.Hy hb)).trans hr⟩ ?_ (fun m y hl hm=>?_) hw
     ·refine .tk om rfl (fun b z len hx=>?_) (fun z hx=>?_)
      ·rw[aK]at hx;cases hx;exact⟨str.size+1,by rw[Dx];omega,by rw[Dx]⟩
      ·rw[aK]at hx;cases hx
     ·have hmc:=H.lt hl;refine⟨⟨y,by rw[aJ,if_neg (by simp only;omega)];exact hl⟩,by rw[bd _ _ om],fun b hb=>?_⟩;have:=H.wZ hl hb;exact⟨by rw[ab.ao,if_neg om],fun cs hr=>by rw[eB H.wf.le _ this];exact hr⟩
    ·exact hw.elim
   ·exact hw.elim
  ·exact iY.EM H (si hw fun x hx=>FI L hx) hp
 ·split at hw
  ·rename_i z es EL;split at hw
   ·rename_i e hd hs;split at hw
    ·rename_i ed hed;split at hw
     ·rename_i hc;simp only[Bool.and_eq_true,Bool.or_eq_true,beq_iff]at hc;obtain⟨hu,hz⟩:=hc;obtain⟨ns,rfl,hK⟩:=hw;obtain⟨hlen,_,_,kH⟩:=oX H EL (n:=1) (hz.imp id fun h=>⟨h,rfl⟩) (by simp) hx;obtain⟨a,cap,rfl⟩:∃a cap,xv= .slice a (bM ns).length cap:=by
       unfold l5 at hlen;split at hlen
       ·cases hlen;exact⟨_,_,rfl⟩
       ·exfalso;unfold W8 at EL;split at EL
        ·cases hx with|tk _ h1=>simp[Ja]at h1
        ·cases hx
        ·cases EL
       ·cases hlen
      have O7:aI E af p=none:=by rw[hp];simp[p9,L.desc _ _ hs,L.desc _ _ hd]
      have Zm:qt E X.base h s d (.slice a (bM ns).length cap)=some (.string (strOf ns),h):=by
       simp only[qt,L.desc _ _ hs,L.desc _ _ hd,L.desc _ _ hed,hu,Option.bind_some,bC,bZ,beq_iff];split
       ·rename_i h0;have:ns=[]:=by simpa[bM]using h0
        subst this;rfl
       ·rename_i h0;rcases kH with h1|⟨new,h1,_,_,_,hV⟩
        ·rw[h1]at h0;simp at h0
        ·have e2:=Mn (ns:=ns) (vs:=new) (by simpa[cF]using hV);rw[h1,e2];simp only[Option.bind_some,HS]
      exact eV.dp H O7 hq eC (by rw[he,Zm];rfl) (.refl H) (.s rfl) (.refl _) hK
     ·exact hw.elim
    ·exact hw.elim
   ·exact hw.elim
  ·exact hw.elim
theorem zK {base n len:Nat} {es:List (List TV)} (hlen:es.length=len):∀{ps:List (Nat×TV)} {pv:List (Nat×Value)} {op:List (Nat×List TV)} {cs:List Value},
 (ps.all fun p=>okV p.2&&Nat.beq (aA p.2).length n&&Nat.blt p.1 len)=true→EQ c ρ F h base n [] es op cs→PG c ρ F h ps pv→
 ∃cv,jS (fun i=>some (i*n,n)) cs pv=some cv∧EQ c ρ F h base n [] es (TB ps op) cv
 |[],[],op,cs,_,hQ,_=>⟨cs,rfl,hQ⟩
 |[],_::_,_,_,_,_,h2=>h2.elim
 |_::_,[],_,_,_,_,h2=>h2.elim
 |q::ps,(k,x)::pv,op,cs,ha,hQ,h2=>by
  obtain⟨e0,hvx,h2⟩:=h2;obtain rfl:q.1=k:=e0;simp only[List.all_cons,Bool.and_eq_true,beq_iff,aR]at ha;obtain⟨⟨⟨HL,hqn⟩,FV⟩,ha⟩:=ha;have sj:=iZ hvx HL;obtain⟨eC,jj⟩:=sb hQ.each hQ.jK;have Mo:q.1<(cF es op).length:=by omega
  obtain⟨row,aN⟩:∃e,(cF es op)[q.1]? =some e:=⟨_,List.getElem?_eq_getElem Mo⟩;have hrl:=jj row (List.mem_of_getElem? aN);have hC:=hQ.cell;rw[←w7 aN]at hC;obtain⟨S1,S2,S3,v1,v2,v3,e0,e1,a1,a2,a3⟩:=gW jj Mo hC;have e2:v1.length=q.1*n:=by
   have h1:=a1.len;have:=(eZ jj aN).2;rw[Nat.add_mul]at this;rw[←h1,List.length_take];omega
  have e3:v2.length=n:=by rw[←a2.len];exact hrl
  have e4:cZ v2 0 x.cells.toList=some x.cells.toList:=by
   obtain⟨r,hr⟩:=lx (n:=0) (l:=v2) (xs:=x.cells.toList) (by rw[←sj.1];omega);rw[hr,j8 hr];have:v2.length≤x.cells.toList.length:=by rw[←sj.1];omega
   rw[List.take_zero,List.drop_zero,List.nil_append,List.drop_eq_nil_of_le this,List.append_nil]
  have e5:=Dr (v1:=v1) (v3:=v3) e4;rw[Nat.add_zero,e2,←e1]at e5;simp only[List.append_eq_nil_iff,List.nil_eq]at e0;obtain⟨rfl,rfl,rfl⟩:=e0;have hJ:=kf jj Mo a1 (cI.kC (base:=base) sj) a3;have hQ1:EQ c ρ F h base n [] es ((q.1,aA q.2)::op) (v1++(x.cells.toList++v3)):=by
   refine⟨?_,hQ.each,hQ.cl,fun p hp=>?_,hJ⟩
   ·have:=(dq e5).2.1;rw[this];exact hQ.len
   ·rcases List.mem_cons.1 hp with rfl |hp
    ·exact⟨om,hqn⟩
    ·exact hQ.jK p hp
  obtain⟨cv,g1,g2⟩:=zK hlen ha hQ1 h2;refine⟨cv,?_,g2⟩;have:x.cells.size=n:=by have:=sj.1;simp only[Array.length_toList]at this;omega
  simp[jS,this,e5,bC,g1]
theorem Mp (L:ck T E) (NX:FA E X) (H:Mem X ρ F o c h) (S:dz c ρ F h f af) (hw:RL T (VC E) p.op f o c K):eV E X ρ F o c af h p K:=by
 obtain⟨dst,op,ty,pos,after,guard⟩:=p;have N:kE T F h:=(NX.now H).sub L;simp only at hw;unfold RL at hw;split at hw
 ·exact hw.elim
 ·rename_i ly;cases op with
  |move x=>
   obtain⟨v,h1,h2⟩:=iP (E:=E) L N S ly (x:=x) (by simp[Op.operands]);obtain⟨hK,_⟩:=ey hw;exact eV.pure H (x:=v) h1 h2 hK
  |assign x=>
   obtain⟨v,h1,h2⟩:=iP (E:=E) L N S ly (x:=x) (by simp[Op.operands]);obtain⟨hK,_⟩:=ey hw;exact eV.pure H (x:=v) h1 h2 hK
  |pick q a b=>
   obtain⟨qv,h1,h2⟩:=iP (E:=E) L N S ly (x:=q) (by simp[Op.operands]);obtain⟨av,h3,h4⟩:=iP (E:=E) L N S ly (x:=a) (by simp[Op.operands]);obtain⟨bv,h5,h6⟩:=iP (E:=E) L N S ly (x:=b) (by simp[Op.operands]);simp only at hw;split at hw
   ·rename_i qb he;rw[he]at h2;have:=h2.dF.1;subst this;split at hw
    ·obtain⟨hK,_⟩:=ey hw;exact eV.pure H (x:=av) (by simp[aI,h1,h3,Cg]) h4 hK
    ·obtain⟨hK,_⟩:=ey hw;exact eV.pure H (x:=bv) (by simp[aI,h1,h5,Cg]) h6 hK
   ·exact hw.elim
  |alloc t=>
   simp only at hw;split at hw
   ·rename_i z hz;split at hw
    ·rename_i zs jj;obtain⟨jL,nq⟩:=L.zero _ _ hz;exact tN H (fP nq jj) rfl rfl (by simp[bc,jL]) hw
    ·exact hw.elim
   ·exact hw.elim
  |box t x=>
   obtain⟨v,h1,h2⟩:=iP (E:=E) L N S ly (x:=x) (by simp[Op.operands]);simp only at hw;obtain⟨hK,bj⟩:=ey hw;have eC:bc E af ⟨dst,.box t x,ty,pos,after,guard⟩=some (.cells v.cells.toList,.ptr):=by simp[bc,h1]
   split at hK
   ·exact hK.elim
   ·exact hK.elim
   ·exact hK.elim
   ·exact hK.elim
   ·rename_i cs he;have sj:=iZ h2 (by rw[he];rfl);rw[he]at sj;exact tN H sj rfl rfl eC hK
   ·rename_i n1 n2 n4 n5 n3;have LH:okV (lN T f x)=true:=by
     cases he:lN T f x with
     |j=>exact absurd he n1
     |cY cs=>exact absurd he (n2 cs)
     |sv a b=>exact absurd he (n4 a b)
     |pv a b=>exact absurd he (n5 a b)
     |_=>rfl
    have sj:=iZ h2 LH;have Zm:aA (lN T f x)=[lN T f x]:=by
     cases he:lN T f x with
     |agg cs=>exact absurd he (n3 cs)
     |_=>rfl
    rw[Zm]at sj;exact tN H sj rfl rfl eC hK
  |build t ps=>
   obtain⟨pv,h1,h2⟩:=nu (E:=E) L N S (l:=ps.toList) (by simpa[Op.operands]using ly);exact iY.EM H (Jn L hw h2) (by simp[aI,h1])
  |buildSlice t len ps=>
   obtain⟨pv,h1,h2⟩:=nu (E:=E) L N S (l:=ps.toList) (by simpa[Op.operands]using ly);simp only at hw;unfold uF at hw;split at hw
   ·rename_i elem hd;split at hw
    ·rename_i n z hn hz;obtain⟨jL,nq⟩:=L.zero _ _ hz;split at hw
     ·rename_i zs hc jj;simp only[Bool.and_eq_true,beq_iff,aG,aR]at hc;obtain⟨⟨j5,sW⟩,Rx⟩:=hc;split at hw
      ·rename_i es O8 SZ;have qB:=fP (c:=c) (ρ:=ρ) (F:=F) (h:=h) nq jj;have Jf:zs.length=n:=by have:=qB.1;simp only[Array.length_toList]at this;omega
       obtain⟨F',cv,S',b1,b2,b3⟩:=zI H SZ (ER.replicate qB Jf O8 len) h2;have HE:es.length=len:=by rw[b3];simp
       refine HJ H S' (cap:=len) b2 Rx om rfl rfl ?_ hw;simp only[bc,L.desc _ _ hd,Option.bind_some,h1,L.size _ _ hn,jL,sW,aG.2 j5,bC];rw[HE];simp[b1]
      ·rename_i O8 SZ;split at hw
       ·rename_i kr;have qB:=fP (c:=c) (ρ:=ρ) (F:=F) (h:=h) nq jj;have Jf:zs.length=n:=by have:=qB.1;simp only[Array.length_toList]at this;omega
        have hE:=ER.replicate qB Jf O8 len
        have hQ0:EQ c ρ F h X.base n [] (List.replicate len zs) [] (aP z.cells.toList len):=
         ⟨hE.len,hE.each,fun e he t ht=>by
          have:=hE.fz e he t ht;unfold lZ;split<;>first|rfl |exact this,by simp,cI.kC (gY hE.len hE.each hE.cell)⟩
        obtain⟨cv,g1,hQ⟩:=zK (by simp) kr hQ0 h2;obtain⟨M1,k1⟩:=H.Fw hQ Rx;refine eV.alloc H (.refl H) (md:=.cells cv) (hd:=.slice n len len) rfl rfl ?_ M1 k1 (.tk om rfl (fun b z' len' hx=>?_) (fun z' hx=>?_)) hw
        ·simp only[bc,L.desc _ _ hd,Option.bind_some,h1,L.size _ _ hn,jL,sW,aG.2 j5,bC];simp[g1]
        ·rw[aK]at hx;cases hx;exact⟨len,by simp,by simp[qq.val]⟩
        ·rw[aK]at hx;cases hx
       ·exact hw.elim
      ·exact hw.elim
     ·exact hw.elim
    ·exact hw.elim
   ·exact hw.elim
  |load t a=>
   obtain⟨av,h1,h2⟩:=iP (E:=E) L N S ly (x:=a) (by simp[Op.operands]);obtain⟨q,h3,h4⟩:=L6 L H hw h2;exact h4.EM rfl (by simp only[bG,h1,Option.bind_some];exact h3)
  |store t a v=>
   obtain⟨av,h1,h2⟩:=iP (E:=E) L N S ly (x:=a) (by simp[Op.operands]);obtain⟨vv,h3,h4⟩:=iP (E:=E) L N S ly (x:=v) (by simp[Op.operands]);exact Js L H hw h2 h4 rfl rfl rfl (by simp only[c7,h1,h3,Option.bind_some];rfl)
  |nilCheck x=>
   obtain⟨v,h1,h2⟩:=iP (E:=E) L N S ly (x:=x) (by simp[Op.operands]);simp only at hw;split at hw
   ·rename_i n q he;rw[he]at h2;cases h2 with
    |ptr hb=>exact eV.pure H (by simp[aI,h1,l6]) (.ptr hb) hw
   ·rename_i e q he;rw[he]at h2;cases h2 with
    |ep a1 a2 a3 a4 a5=>exact eV.pure H (by simp[aI,h1,l6]) (.ep a1 a2 a3 a4 a5) hw
   ·rename_i g a b he;rw[he]at h2;cases h2 with
    |dc a1 a2 a3 a4=>exact eV.pure H (by simp[aI,h1,l6]) (.dc a1 a2 a3 a4) hw
   ·exact hw.elim
  |binOp bop t x y t2=>
   obtain⟨av,h1,h2⟩:=iP (E:=E) L N S ly (x:=x) (by simp[Op.operands]);obtain⟨bv,h3,h4⟩:=iP (E:=E) L N S ly (x:=y) (by simp[Op.operands]);exact iY.EM H (PH L H hw h2 h4) (by simp[aI,h1,h3])
  |unOp uop t x=>
   obtain⟨v,h1,h2⟩:=iP (E:=E) L N S ly (x:=x) (by simp[Op.operands]);simp only at hw;split at hw
   ·rename_i w he;split at hw
    ·rename_i hs;rw[he]at h2;have:=h2.dF.1;subst this;exact iY.EM H (si hw fun x hx=>hx) (by simp[aI,h1,hs,bC])
    ·exact hw.elim
   ·exact hw.elim
  |convert s d x=>
   obtain⟨v,h1,h2⟩:=iP (E:=E) L N S ly (x:=x) (by simp[Op.operands]);exact Dy L H hw h2 (by simp[aI,h1]) rfl rfl (by simp[c7,h1])
  |makeInterface t x=>
   obtain⟨v,h1,h2⟩:=iP (E:=E) L N S ly (x:=x) (by simp[Op.operands]);simp only at hw;split at hw
   ·exact hw.elim
   ·exact hw.elim
   ·rename_i d hd n1;split at hw
    ·exact hw.elim
    ·refine eV.pure H (x:=.iface t v) ?_ (.mT h2) hw;simp only[aI,L.desc _ _ n1,Option.bind_some,h1]
  |makeFunc fn first captured=>
   simp only at hw;split at hw
   ·rename_i g;have he:(first.toList.all (qO T)=true)∧(captured.toList.all (qO T)=true):=by
     simpa[Op.operands]using ly
    obtain⟨a,h1,h2⟩:=oT (E:=E) L N S he.1;obtain⟨b,h3,h4⟩:=oT (E:=E) L N S he.2;exact eV.pure H (x:=.func (.func g) a.toArray b.toArray) (by simp[aI,h1,h3]) (.dc (by simpa using h2.1) (fun i t v q1 q2=>h2.2 i t v q1 (by simpa using q2)) (by simpa using h4.1) (fun i t v q1 q2=>h4.2 i t v q1 (by simpa using q2))) hw
   ·exact hw.elim
  |makeMap t r=>
   cases r with
   |some r=>exact hw.elim
   |none=>
    simp only at hw;split at hw
    ·split at hw
     ·split at hw
      ·exact PO H _ rfl rfl rfl hw
      ·exact hw.elim
     ·exact hw.elim
    ·exact hw.elim
  |makeSlice t l k=>
   obtain⟨lv,h1,h2⟩:=iP (E:=E) L N S ly (x:=l) (by simp[Op.operands]);obtain⟨kv,h3,h4⟩:=iP (E:=E) L N S ly (x:=k) (by simp[Op.operands]);simp only at hw;unfold wE at hw;split at hw
   ·rename_i elem li ki hd Ze hki;split at hw
    ·rename_i n bytes z hn EH hz;obtain⟨jL,nq⟩:=L.zero _ _ hz;split at hw
     ·rename_i zs hc jj;simp only[Bool.and_eq_true,beq_iff,aR]at hc;obtain⟨hc,FR⟩:=hc;split at hw
      ·rename_i O8;obtain⟨⟨b1,b2,b30⟩,hK⟩:=hw;have b3:(ki+1)*((bytes:Int)+1)≤1099511627776:=by
        have h1:(ki.toNat+1)*(bytes+1)≤1099511627776:=size_le om FR;have h2:ki=(ki.toNat:Int):=by omega
        rw[h2];have h3:=Int.ofNat_le.2 h1;rw[Int.natCast_mul]at h3;exact h3
       have qB:=fP (c:=c) (ρ:=ρ) (F:=F) (h:=h) nq jj;have Jf:zs.length=n:=by have:=qB.1;simp only[Array.length_toList]at this;omega
       have hE:=ER.replicate qB Jf O8 li.toNat
       refine HJ H (.refl H) (cap:=bif Nat.beq li.toNat ki.toNat then li.toNat else li.toNat+1) hE hc.2 (by simp only[List.length_replicate,bZ];split<;>omega) rfl rfl ?_ hK;simp only[bc,L.desc _ _ hd,Option.bind_some,h1,h3,my Ze h2,my hki h4,L.size _ _ hn,L.bytes _ _ EH,jL,hc.1,bC];simp[b1,b2,b3]
      ·exact hw.elim
     ·exact hw.elim
    ·exact hw.elim
   ·exact hw.elim
  |slice t x lo hi mx=>
   obtain⟨xv,h1,h2⟩:=iP (E:=E) L N S ly (x:=x) (by simp[Op.operands]);obtain⟨wU,h3,h4⟩:=evO (E:=E) L N S ly (x:=lo) (fun y e=>by subst e;simp[Op.operands]);obtain⟨hiv,h5,h6⟩:=evO (E:=E) L N S ly (x:=hi) (fun y e=>by subst e;simp[Op.operands]);obtain⟨Pb,h7,h8⟩:=evO (E:=E) L N S ly (x:=mx) (fun y e=>by subst e;simp[Op.operands]);exact(Jl L H hw h2 h4 h6 h8).EM H (by simp[aI,h1,h3,h5,h7])
  |fieldAddr s x fd=>
   obtain⟨v,h1,h2⟩:=iP (E:=E) L N S ly (x:=x) (by simp[Op.operands]);exact iY.EM H (yV L H hw h2) (by simp only[aI,h1,Option.bind_some];rfl)
  |field t x fd=>
   obtain⟨v,h1,h2⟩:=iP (E:=E) L N S ly (x:=x) (by simp[Op.operands]);exact iY.EM H (Jj L hw h2) (by simp only[aI,h1,Option.bind_some];rfl)
  |indexAddr t x i=>
   obtain⟨v,h1,h2⟩:=iP (E:=E) L N S ly (x:=x) (by simp[Op.operands]);obtain⟨iv,h3,h4⟩:=iP (E:=E) L N S ly (x:=i) (by simp[Op.operands]);exact iY.EM H (yW L H hw h2 h4) (by simp[aI,h1,h3])
  |index t x i=>
   obtain⟨v,h1,h2⟩:=iP (E:=E) L N S ly (x:=x) (by simp[Op.operands]);obtain⟨iv,h3,h4⟩:=iP (E:=E) L N S ly (x:=i) (by simp[Op.operands]);exact iY.EM H (Jk L hw h2 h4) (by simp[aI,h1,h3])
  |lookup t x i ok=>
   obtain⟨v,h1,h2⟩:=iP (E:=E) L N S ly (x:=x) (by simp[Op.operands]);obtain⟨iv,h3,h4⟩:=iP (E:=E) L N S ly (x:=i) (by simp[Op.operands]);rcases FK L H hw h2 h4 with⟨rfl,R⟩|⟨r,rfl,q,hq,R⟩
   ·exact iY.EM H R (by simp only[aI,h1,h3,Option.bind_some];cases E.desc t with|none=>rfl |some d=>cases d<;>rfl)
   ·refine R.EM ?_ (by simp only[bG,h1,h3,Option.bind_some];exact hq);simp only[aI,h1,h3,Option.bind_some];cases E.desc t with
    |none=>rfl
    |some d=>cases d<;>rfl
  |mapUpdate t m k v=>
   obtain⟨mv,h1,h2⟩:=iP (E:=E) L N S ly (x:=m) (by simp[Op.operands]);obtain⟨kv,h3,h4⟩:=iP (E:=E) L N S ly (x:=k) (by simp[Op.operands]);obtain⟨vv,h5,h6⟩:=iP (E:=E) L N S ly (x:=v) (by simp[Op.operands]);exact y5 L H hw h2 h4 h6 rfl rfl rfl (by simp only[c7,h1,h3,h5,Option.bind_some];rfl)
  |extract t i=>
   obtain⟨v,h1,h2⟩:=iP (E:=E) L N S ly (x:=t) (by simp[Op.operands]);simp only at hw;split at hw
   ·rename_i vs he;rw[he]at h2;obtain⟨a,rfl,h3⟩:=h2.r9;split at hw
    ·rename_i w hi;obtain⟨hK,_⟩:=ey hw;have bF:=(List.getElem?_eq_some_iff.1 hi).1;have aaT:i<a.toList.length:=by rw[←h3.1];exact bF
     obtain⟨x,hx⟩:∃x,a.toList[i]? =some x:=⟨_,List.getElem?_eq_getElem aaT⟩;exact eV.pure H (x:=x) (by simp only[aI,h1,Option.bind_some];exact hx) (h3.2 i w x hi hx) hK
    ·exact hw.elim
   ·exact hw.elim
  |call q=>
   obtain⟨callee,sq,argTypes⟩:=q;simp only at hw;split at hw
   ·rename_i b;have aaU:sq.toList.all (qO T)=true:=by simpa[Op.operands,Call.operands]using ly
    obtain⟨vs,h1,h2⟩:=oT (E:=E) L N S aaU;exact Dw L H hw h2 h1
   ·rename_i g;have he:qO T g=true∧sq.toList.all (qO T)=true:=by simpa[Op.operands,Call.operands]using ly
    obtain⟨gv,h1,h2⟩:=pI (E:=E) L N S he.1;obtain⟨vs,h3,h4⟩:=oT (E:=E) L N S he.2;split at hw
    ·rename_i g' a b hg;rw[hg]at h2;cases h2 with
     |dc hs ha ht hk=>
      rename_i a' k';have vV:dH c ρ F h a a'.toList:=⟨by simpa using hs,fun i t v q1 q2=>ha i t v q1 (by simpa using q2)⟩;have oK:dH c ρ F h b k'.toList:=⟨by simpa using ht,fun i t v q1 q2=>hk i t v q1 (by simpa using q2)⟩;refine Ml NX H (L.still g') hw ((vV.append h4).append oK) rfl rfl rfl ?_;simp only[c7,h3,h1,Option.bind_some]
    ·exact hw.elim
   ·exact hw.elim
  |_=>exact hw.elim
end
def BF (h:ab) (b:Nat):Prop:=(∃cs,h.rd b=some cs)∨∃ob,h.get b=some ob∧∀cs f t th,ob≠ .cells cs f t th
theorem Mem.live {X:Cx} {ρ:Gh} {F:Nat→Prop} {o:Ob} {c:Nat} {h:ab} (H:Mem X ρ F o c h) {m:Nat} {y:TO} {b:Nat} (hl:look o m=some y) (hb:zD ρ m b):BF h b:=by
 obtain⟨Sm,hO⟩:=H.b8 hl;cases hO with
 |cells h1 hg ht hc=>
  rcases hb with hb|⟨z,l,hb⟩<;>rw[h1]at hb<;>cases hb
  exact .inl (⟨_,dO (bH hg hg) ht (by unfold ab.cellsOf;rw[hg])⟩)
 |map h1 hg=>rcases hb with hb|⟨z,l,hb⟩<;>rw[h1]at hb<;>cases hb;exact .inr ⟨_,hg,by simp⟩
 |eT h1 hg=>rcases hb with hb|⟨z,l,hb⟩<;>rw[h1]at hb<;>cases hb;exact .inr ⟨_,hg,by simp⟩
 |gO h1 hg=>rcases hb with hb|⟨z,l,hb⟩<;>rw[h1]at hb<;>cases hb;exact .inr ⟨_,hg,by simp⟩
 |nil h1=>rcases hb with hb|⟨z',l,hb⟩<;>rw[h1]at hb<;>cases hb
 |gq h1=>rcases hb with hb|⟨z',l,hb⟩<;>rw[h1]at hb<;>cases hb
 |arr h1 hg hf ht=>rcases hb with hb|⟨z',l,hb⟩<;>rw[h1]at hb<;>cases hb;exact .inl (⟨_,dO hf ht (by unfold ab.cellsOf;rw[hg])⟩)
 |bV h1 hg hf ht=>rcases hb with hb|⟨z',l,hb⟩<;>rw[h1]at hb<;>cases hb;exact .inl (⟨_,dO hf ht (by unfold ab.cellsOf;rw[hg])⟩)
theorem xg:∀{o:Ob} {m:Nat},m∈VV o→∃y,look o m=some y
 |[],m,h=>by simp[VV]at h
 |p::o,m,h=>by
  rw[aJ];by_cases e:p.1=m
  ·exact⟨p.2,by simp[e]⟩
  ·rw[if_neg e];simp only[VV,List.mem_cons]at h;rcases h with h|h
   ·exact absurd h.symm e
   ·exact xg h
def PY:TV→Bool
 | .mp _=>true
 | .ptr _ _=>true
 |_=>false
def ny (ρ:Gh) (o:Ob) (h:ab):Prop:=∀n cs p v,look o n=some (.cells cs)→cs[p]? =some v→PY v=true→∃b x,ρ n=some (.dw b)∧ae h b p 1=some [x]∧kF ρ v x
theorem Mem.BG {X:Cx} {ρ:Gh} {F:Nat→Prop} {o:Ob} {c:Nat} {h:ab} (H:Mem X ρ F o c h):ny ρ o h:=by
 intro n cs p v hl hp hv;obtain⟨Sm,hO⟩:=H.b8 hl;cases hO with
 |cells hb hg ht hc=>
  rename_i S b aO cv;obtain⟨S1,S2,S3,_,a1,a2,a3⟩:=hc.part p 1;have bF:=(List.getElem?_eq_some_iff.1 hp).1;have e1:(cs.drop p).take 1=[v]:=by
   rw[List.drop_eq_getElem_cons bF,List.take_succ_cons,List.take_zero];rw[(List.getElem?_eq_some_iff.1 hp).2]
  rw[e1]at a2;have hV:=a2.VX (fun t v hv hf=>hv.dL hf) (by cases v<;>first|rfl |simp[PY]at hv);obtain⟨x,m1,e2,hx,EU⟩:=hV.1.aQ;obtain rfl:=EU.bK;have hlen:=hc.len;have fW:=dO (bH hg hg) ht (az hg);refine⟨b,x,hb,?_,?_⟩
  ·unfold ae;rw[fW];simp only[Option.bind_some,aU];exact⟨by rw[List.length_drop];omega,e2.symm⟩
  ·cases v with
   |mp k=>cases hx with|mp h1=>exact .inl ⟨_,_,rfl,h1,rfl⟩
   |ptr k q=>cases hx with|ptr h1=>exact .inr ⟨_,_,_,rfl,h1,rfl⟩
   |_=>simp[PY]at hv
inductive tP (oF:Ob):Gh→(Nat→Prop)→Ob→ab→List VN→List ee→Prop
 |nil {ρ:Gh} {F:Nat→Prop} {h:ab} (bU:ny ρ oF h):tP oF ρ F oF h [] []
 |cons {ρ ρ':Gh} {F F':Nat→Prop} {o o':Ob} {h h':ab} {l:VL} {e:ee} {ls:List VN} {es:List ee} (hl:fF ρ F o h ρ' o' h' l e) (hw:Wf h) (hs:h.size≤h'.size) (hF:∀b,F b→F' b) (cX:∀b cs,F b→h.rd b=some cs→h'.rd b=some cs)
  (PZ:∀m y b,look o m=some y→zD ρ m b→BF h b) (s6:∀k b,ρ k=some (.dw b)→ρ' k=some (.dw b)) (bU:ny ρ o h) (hr:tP oF ρ' F' o' h' ls es):tP oF ρ F o h ((l,o)::ls) (e::es)
theorem tP.next {oF:Ob} {ρ:Gh} {F:Nat→Prop} {o:Ob} {h:ab} {ls:List VN} {es:List ee} (H:tP oF ρ F o h ls es):Hu oF ls=o∧ny ρ o h:=by
 cases H with
 |nil bU=>exact⟨rfl,bU⟩
 |cons _ _ _ _ _ _ _ bU _=>exact⟨rfl,bU⟩
theorem vC {h:ab} (W:Wf h) (q:RQ):qu h q=true:=by
 unfold qu;rw[bZ];split
 ·rename_i hb;split
  ·rename_i f t th hg;rw[aR]at hb ⊢;have:=W.le _ _ _ _ _ hg;omega
  ·rfl
 ·rfl
theorem xh {h:ab} (W:Wf h) {q:RQ} (hn:lr q h):q.dw<h.size:=by
 cases q with
 |cells a b o n=>
  obtain⟨l,h1,_⟩:=hn;unfold ae at h1;simp only[Option.bind_eq_some_iff]at h1;obtain⟨cs,h2,_⟩:=h1;obtain⟨f,t,th,hg⟩:=wI h2;exact W.lt hg
 |look r kd k z ok=>
  obtain⟨m,h1,_⟩:=hn;unfold eO at h1;split at h1
  ·rename_i hg;exact W.lt hg
  ·cases h1
 |len r=>
  obtain⟨m,h1,_⟩:=hn;unfold eO at h1;split at h1
  ·rename_i hg;exact W.lt hg
  ·cases h1
theorem jb {h h':ab} {q:RQ} (hn:lr q h) (hg:(∃a b o n,q= .cells a b o n)∨h'.get q.dw=h.get q.dw) (hr:∀cs,h.rd q.dw=some cs→h'.rd q.dw=some cs):lr q h'∧fx h h' q=true:=by
 cases q with
 |cells a b o n=>
  obtain⟨l,h1,h2⟩:=hn;have h3:ae h' b o n=some l:=by
   unfold ae at h1 ⊢;simp only[Option.bind_eq_some_iff]at h1 ⊢;obtain⟨cs,h4,h5⟩:=h1;exact⟨cs,hr cs h4,h5⟩
  refine⟨⟨l,h3,h2⟩,?_⟩;unfold fx;rw[Bool.or_eq_true];left;unfold kY;rw[bZ];split
  ·simp only[h1,h3,h2]
  ·rfl
 |look r kd k z ok=>
  obtain⟨m,h1,h2⟩:=hn;have km:h'.get r=h.get r:=by
   rcases hg with⟨a,b,o,n,e⟩|hg
   ·cases e
   ·exact hg
  have h3:eO h' r=some m:=by unfold eO at h1 ⊢;rw[km];exact h1
  refine⟨⟨m,h3,h2⟩,?_⟩;unfold fx;rw[Bool.or_eq_true];left;unfold kY;rw[bZ];split
  ·simp only[h1,h3,h2]
  ·rfl
 |len r=>
  obtain⟨m,h1,h2⟩:=hn;have km:h'.get r=h.get r:=by
   rcases hg with⟨a,b,o,n,e⟩|hg
   ·cases e
   ·exact hg
  have h3:eO h' r=some m:=by unfold eO at h1 ⊢;rw[km];exact h1
  refine⟨⟨m,h3,h2⟩,?_⟩;unfold fx;rw[Bool.or_eq_true];left;unfold kY;rw[bZ];split
  ·simp only[h1,h3,h2]
  ·rfl
theorem gZ (h:ab) (q:RQ):fx h h q=true:=by
 unfold fx;rw[Bool.or_eq_true];exact .inr (decide_eq_true (inst:=Classical.propDecidable _) rfl)
section
variable {bs:List Nat} {i:Nat} {oF:Ob}
theorem sr:∀{ls:List VN} {j:Nat},fy bs oF j ls=true→∀l∈ls,l.1≠ .bad
 |[],_,_,l,hl=>by simp at hl
 |x::ls,j,hd,l,hl=>by
  have key:fy bs oF (j+1) ls=true∧x.1≠ .bad:=by
   obtain⟨x,nm⟩:=x;cases x<;>simp only[fy,Bool.and_eq_true]at hd
   ·exact⟨hd,by simp⟩
   ·exact⟨hd,by simp⟩
   ·exact⟨hd,by simp⟩
   ·exact⟨hd.2,by simp⟩
   ·exact⟨hd.2,by simp⟩
   ·exact⟨hd.2,by simp⟩
   ·exact⟨hd.2,by simp⟩
   ·exact⟨hd.2,by simp⟩
   ·cases hd
  rcases List.mem_cons.1 hl with rfl |h1
  ·exact key.2
  ·exact sr key.1 l h1
theorem RZ {q:RQ} (hc:∃a b o n,q= .cells a b o n) {vR:ab}:∀{ls:List VN} {es:List ee} {ρ:Gh} {F:Nat→Prop} {o:Ob} {h:ab} {j:Nat},tP oF ρ F o h ls es→(∀l∈ls,l.1≠ .bad)→F q.dw→lr q h→cb bs i (.rd q vR) j es=true
 |_,_,ρ,F,_,h,j,.nil _,_,_,_=>rfl
 |_,_,ρ,F,o,h,j,.cons (h':=h') (l:=l) (e:=e) hl hw hs hF cX PZ s6 bU hr,oi,XO,hn=>by
  obtain⟨k1,k2⟩:=jb (h':=h') hn (.inl hc) (fun cs=>cX _ cs XO);have ih:=RZ hc (vR:=vR) (j:=j+1) hr (fun l hl=>oi l (List.mem_cons_of_mem _ hl)) (hF _ XO) k1;simp only[cb,Bool.and_eq_true];refine⟨?_,ih⟩;cases hl with
  |pure=>rfl
  |alloc=>exact vC hw q
  |Hj=>rfl
  |kS=>rfl
  |yR=>rfl
  |dp=>simp[aV,k2]
  |n9 hr hh=>subst hh;simp[aV,gZ]
  |oc=>simp[aV,k2]
  |bad=>exact absurd rfl (oi _ List.mem_cons_self)
theorem oY {q:RQ} {n:Nat} {vR:ab}:∀{ls:List VN} {es:List ee} {ρ:Gh} {F:Nat→Prop} {o:Ob} {h:ab} {j:Nat} {dZ:Bool},tP oF ρ F o h ls es→(∀l∈ls,l.1≠ .bad)→oQ bs i n j ls dZ=true→
 (dZ=false→(∃y,look o n=some y)∧zD ρ n q.dw∧lr q h)→cb bs i (.rd q vR) j es=true
 |_,_,ρ,F,_,h,j,dZ,.nil _,_,_,_=>rfl
 |_,_,ρ,F,o,h,j,dZ,.cons (ρ':=ρ') (o':=o') (h':=h') (l:=l) (e:=e) (ls:=ls) hl hw hs hF cX PZ s6 bU hr,oi,hp,ht=>by
  have cL:∀l∈ls,l.1≠ .bad:=fun l hl=>oi l (List.mem_cons_of_mem _ hl)
  -- an operation that leaves the object alone
  have quiet:∀ns,Raw ρ o h ρ' o' h' ns→n∉ns→dZ=false→((∃y,look o' n=some y)∧zD ρ' n q.dw∧lr q h')∧fx h h' q=true:=by
   intro ns bA AQ hd;obtain⟨⟨y,hy⟩,hat,hn⟩:=ht hd;obtain⟨⟨y',r1⟩,r2,r3⟩:=bA n y hy AQ;obtain⟨r4,r5⟩:=r3 _ hat
   obtain⟨k1,k2⟩:=jb hn (.inr r4) r5;exact⟨⟨⟨y',r1⟩,by unfold zD at hat ⊢;rw[r2];exact hat,k1⟩,k2⟩
  simp only[cb,Bool.and_eq_true];cases hl with
  |pure bA=>exact⟨rfl,oY hr cL hp fun hd=>(quiet _ bA (by simp) hd).1⟩
  |alloc bA=>exact⟨vC hw q,oY hr cL hp fun hd=>(quiet _ bA (by simp) hd).1⟩
  |Hj bA=>exact⟨rfl,oY hr cL hp fun hd=>(quiet _ bA (by simp) hd).1⟩
  |kS bA=>exact⟨rfl,oY hr cL hp fun hd=>(quiet _ bA (by simp) hd).1⟩
  |yR bA=>exact⟨rfl,oY hr cL hp fun hd=>(quiet _ bA (by simp) hd).1⟩
  |dp bA=>
   rename_i ns;simp only[oQ]at hp;split at hp
   ·rename_i hc;simp only[Bool.and_eq_true]at hp;exact⟨by simp[aV,hp.1],oY hr cL hp.2 fun hd=>by cases hd⟩
   ·rename_i hc;have hd:dZ=false:=by cases dZ<;>simp_all
    have AQ:n∉ns:=by subst hd;simpa using hc
    obtain⟨q1,q2⟩:=quiet _ bA AQ hd;exact⟨by simp[aV,q2],oY hr cL hp fun _=>q1⟩
  |n9 bA hh=>
   rename_i ns;subst hh;simp only[oQ]at hp;refine⟨by simp[aV,gZ],oY hr cL hp fun hd=>?_⟩;simp only[Bool.or_eq_false_iff]at hd;exact(quiet _ bA (by simpa using hd.2) hd.1).1
  |oc bA=>
   simp only[oQ]at hp;split at hp
   ·simp only[Bool.and_eq_true]at hp;exact⟨by simp[aV,hp.1],oY hr cL hp.2 fun hd=>by cases hd⟩
   ·obtain⟨q1,q2⟩:=quiet _ bA (by simp) rfl;exact⟨by simp[aV,q2],oY hr cL hp fun _=>q1⟩
  |bad=>exact absurd rfl (oi _ List.mem_cons_self)
theorem kF.bk {ρ ρ':Gh} {v:TV} {x:Value} (H:kF ρ v x) (hk:∀k b,ρ k=some (.dw b)→ρ' k=some (.dw b)):kF ρ' v x:=by
 rcases H with⟨k,b,h1,h2,h3⟩|⟨k,q,b,h1,h2,h3⟩
 ·exact .inl ⟨k,b,h1,hk _ _ h2,h3⟩
 ·exact .inr ⟨k,q,b,h1,hk _ _ h2,h3⟩
theorem kF.uniq {ρ:Gh} {v:TV} {x y:Value} (H:kF ρ v x) (K:kF ρ v y):x=y:=by
 rcases H with⟨k,b,rfl,h2,rfl⟩|⟨k,q,b,rfl,h2,rfl⟩<;>rcases K with⟨k',b',e,k2,rfl⟩|⟨k',q',b',e,k2,rfl⟩<;>cases e<;>rw[h2]at k2<;>cases k2<;>rfl
theorem kF.Ch {ρ:Gh} {v:TV} {x:Value} (H:kF ρ v x):fZ [x] [x]=true∧PY v=true:=by
 rcases H with⟨k,b,rfl,h2,rfl⟩|⟨k,q,b,rfl,h2,rfl⟩<;>exact⟨by simp[fZ,js],rfl⟩
theorem zL {v w:TV} (h:Bo v w=true):w=v:=by
 cases v<;>cases w<;>simp[Bo]at h
 ·obtain⟨rfl,rfl⟩:=h;rfl
 ·subst h;rfl
theorem jc {n p b:Nat} {v:TV} {x:Value} {vR:ab}:∀{ls:List VN} {es:List ee} {ρ:Gh} {F:Nat→Prop} {o:Ob} {h:ab} {j:Nat} {dZ:Bool},tP oF ρ F o h ls es→(∀l∈ls,l.1≠ .bad)→mq bs i n p v oF j ls dZ=true→
 (dZ=false→(∃y,look o n=some y)∧ρ n=some (.dw b)∧ae h b p 1=some [x]∧kF ρ v x)→cb bs i (.rd (.cells false b p 1) vR) j es=true
 |_,_,ρ,F,_,h,j,dZ,.nil _,_,_,_=>rfl
 |_,_,ρ,F,o,h,j,dZ,.cons (ρ':=ρ') (o':=o') (h':=h') (l:=l) (e:=e) (ls:=ls) hl hw hs hF cX PZ s6 bU hr,oi,hp,ht=>by
  have cL:∀l∈ls,l.1≠ .bad:=fun l hl=>oi l (List.mem_cons_of_mem _ hl);have same:∀{h1:ab},dZ=false→ae h1 b p 1=some [x]→fx h h1 (.cells false b p 1)=true:=by
   intro h1 hd h2;obtain⟨_,_,h3,h4⟩:=ht hd;unfold fx;rw[Bool.or_eq_true];left;unfold kY;rw[bZ];split
   ·simp only[h3,h2,h4.Ch.1]
   ·rfl
  have quiet:∀ns,Raw ρ o h ρ' o' h' ns→n∉ns→dZ=false→(∃y,look o' n=some y)∧ρ' n=some (.dw b)∧ae h' b p 1=some [x]∧kF ρ' v x:=by
   intro ns bA AQ hd;obtain⟨⟨y,hy⟩,hb,fW,hx⟩:=ht hd;obtain⟨⟨y',r1⟩,r2,r3⟩:=bA n y hy AQ;obtain⟨r4,r5⟩:=r3 _ (.inl hb);refine⟨⟨y',r1⟩,s6 _ _ hb,?_,hx.bk s6⟩;unfold ae at fW ⊢;simp only[Option.bind_eq_some_iff]at fW ⊢;obtain⟨cs,h4,h5⟩:=fW;exact⟨cs,r5 cs h4,h5⟩
  simp only[cb,Bool.and_eq_true];cases hl with
  |pure bA=>exact⟨rfl,jc hr cL hp fun hd=>quiet _ bA (by simp) hd⟩
  |alloc bA=>exact⟨vC hw _,jc hr cL hp fun hd=>quiet _ bA (by simp) hd⟩
  |Hj bA=>exact⟨rfl,jc hr cL hp fun hd=>quiet _ bA (by simp) hd⟩
  |kS bA=>exact⟨rfl,jc hr cL hp fun hd=>quiet _ bA (by simp) hd⟩
  |yR bA=>exact⟨rfl,jc hr cL hp fun hd=>quiet _ bA (by simp) hd⟩
  |dp bA=>
   rename_i ns;simp only[mq]at hp;split at hp
   ·simp only[Bool.and_eq_true]at hp;exact⟨by simp[aV,hp.1],jc (x:=x) hr cL hp.2 fun hd=>by cases hd⟩
   ·split at hp
    ·rename_i hc;have AQ:n∉ns:=by simpa using hc
     have q1:=quiet _ bA AQ rfl;exact⟨by simp[aV,same rfl q1.2.2.1],jc hr cL hp fun _=>q1⟩
    ·split at hp
     ·rename_i T7;obtain⟨e1,e2⟩:=hr.next;rw[e1]at T7;unfold oR at T7;split at T7
      ·rename_i cs uv;split at T7
       ·rename_i w XG;obtain rfl:=zL T7;obtain⟨_,hb,_,hx⟩:=ht rfl;obtain⟨b',x',k1,k2,k3⟩:=e2 n cs p _ uv XG hx.Ch.2;rw[s6 _ _ hb]at k1;cases k1;obtain rfl:=(hx.bk s6).uniq k3;exact⟨by simp[aV,same rfl k2],jc hr cL hp fun _=>⟨⟨_,uv⟩,s6 _ _ hb,k2,k3⟩⟩
       ·cases T7
      ·cases T7
     ·simp only[Bool.and_eq_true]at hp;exact⟨by simp[aV,hp.1],jc (x:=x) hr cL hp.2 fun hd=>by cases hd⟩
  |n9 bA hh=>
   rename_i ns;subst hh;simp only[mq]at hp;refine⟨by simp[aV,gZ],jc (x:=x) hr cL hp fun hd=>?_⟩;simp only[Bool.or_eq_false_iff]at hd;exact quiet _ bA (by simpa using hd.2) hd.1
  |oc bA=>
   simp only[mq]at hp;split at hp
   ·simp only[Bool.and_eq_true]at hp;exact⟨by simp[aV,hp.1],jc (x:=x) hr cL hp.2 fun hd=>by cases hd⟩
   ·have q1:=quiet _ bA (by simp) rfl;exact⟨by simp[aV,same rfl q1.2.2.1],jc hr cL hp fun _=>q1⟩
  |bad=>exact absurd rfl (oi _ List.mem_cons_self)
def xi (ρ:Gh) (ob oa:Ob) (g g':ab):Prop:=∀m p v,oR ob m p v=true→oR oa m p v=true→∃b x,ρ m=some (.dw b)∧ae g b p 1=some [x]∧ae g' b p 1=some [x]∧kF ρ v x
theorem xi.bk {ρ ρ':Gh} {ob oa:Ob} {g g':ab} (H:xi ρ ob oa g g') (s6:∀k b,ρ k=some (.dw b)→ρ' k=some (.dw b)):xi ρ' ob oa g g':=by
 intro m p v h1 h2;obtain⟨b,x,k1,k2,k3,k4⟩:=H m p v h1 h2;exact⟨b,x,s6 _ _ k1,k2,k3,k4.bk s6⟩
theorem xk {ρ:Gh} {o:Ob} {h:ab} {m p:Nat} {v:TV} (H:ny ρ o h) (hc:oR o m p v=true):∃b x,ρ m=some (.dw b)∧ae h b p 1=some [x]∧kF ρ v x:=by
 unfold oR at hc;split at hc
 ·rename_i cs uv;split at hc
  ·rename_i w XG;obtain rfl:=zL hc;exact H m cs p _ uv XG (by cases w<;>first|rfl |simp[Bo]at hc)
  ·cases hc
 ·cases hc
theorem Mq {ρ ρ':Gh} {ob oa:Ob} {g g':ab} (H:ny ρ ob g) (H':ny ρ' oa g') (s6:∀k b,ρ k=some (.dw b)→ρ' k=some (.dw b)):xi ρ' ob oa g g':=by
 intro m p v h1 h2;obtain⟨b,x,k1,k2,k3⟩:=xk H h1;obtain⟨b',x',l1,l2,l3⟩:=xk H' h2;rw[s6 _ _ k1]at l1;cases l1;obtain rfl:=(k3.bk s6).uniq l3;exact⟨b,x,s6 _ _ k1,k2,l2,l3⟩
theorem jo {g g':ab} {nm:List Nat} {ob oa:Ob}:∀{ls:List VN} {es:List ee} {ρ:Gh} {F:Nat→Prop} {o:Ob} {h:ab} {wH:List Nat} {j:Nat},tP oF ρ F o h ls es→(∀l∈ls,l.1≠ .bad)→jX bs i nm ob oa wH j ls=true→xi ρ ob oa g g'→
 (∀m∈nm,m∉wH→(∃y,look o m=some y)∧∀b,zD ρ m b→BF g b∧g'.get b=g.get b∧(∀cs,g.rd b=some cs→g'.rd b=some cs)∧h.get b=g.get b∧(∀cs,g.rd b=some cs→h.rd b=some cs))→cb bs i (.dp g g') j es=true
 |_,_,ρ,F,_,h,wH,j,.nil _,_,_,_,_=>rfl
 |_,_,ρ,F,o,h,wH,j,.cons (ρ':=ρ') (o':=o') (h':=h') (l:=l) (e:=e) (ls:=ls) hl hw hs hF cX PZ s6 bU hr,oi,hp,hB,ht=>by
  have R8:=hB.bk s6;have cL:∀l∈ls,l.1≠ .bad:=fun l hl=>oi l (List.mem_cons_of_mem _ hl);have next:∀(ms T8:List Nat),Raw ρ o h ρ' o' h' ms→(∀m,m∉T8→m∉wH∧m∉ms)→∀m∈nm,m∉T8→(∃y,look o' m=some y)∧∀b,zD ρ' m b→BF g b∧g'.get b=g.get b∧(∀cs,g.rd b=some cs→g'.rd b=some cs)∧h'.get b=g.get b∧(∀cs,g.rd b=some cs→h'.rd b=some cs):=by
   intro ms T8 bA ju m hm P0;obtain⟨q1,q2⟩:=ju m P0;obtain⟨⟨y,hy⟩,hb⟩:=ht m hm q1;obtain⟨⟨y',r1⟩,r2,r3⟩:=bA m y hy q2;refine⟨⟨y',r1⟩,fun b uO=>?_⟩;have XP:zD ρ m b:=by unfold zD at uO ⊢;rw[←r2];exact uO
   obtain⟨a1,a2,a3,a4,a5⟩:=hb b XP;obtain⟨b1,b2⟩:=r3 b XP;exact⟨a1,a2,a3,b1.trans a4,fun cs qa=>b2 cs (a5 cs qa)⟩
  simp only[cb,Bool.and_eq_true];cases hl with
  |pure bA=>exact⟨rfl,jo hr cL hp R8 (next _ _ bA fun m hm=>⟨hm,by simp⟩)⟩
  |alloc bA=>exact⟨rfl,jo hr cL hp R8 (next _ _ bA fun m hm=>⟨hm,by simp⟩)⟩
  |Hj bA=>simp only[jX,Bool.and_eq_true]at hp;exact⟨by simp[aV,hp.1],jo hr cL hp.2 R8 (next _ _ bA fun m hm=>⟨hm,by simp⟩)⟩
  |kS bA hh hy hb hn=>
   rename_i q m y;simp only[jX,Bool.and_eq_true,Bool.or_eq_true]at hp;refine⟨?_,jo hr cL hp.2 R8 (next _ _ bA fun m hm=>⟨hm,by simp⟩)⟩;rcases hp.1 with ho|ho
   ·simp[aV,ho]
   ·simp only[Bool.not_eq_true']at ho;have hm:m∈nm:=by simpa using ho.1
    have P0:m∉wH:=by simpa using ho.2
    obtain⟨a1,a2,a3,a4,a5⟩:=(ht m hm P0).2 _ hb;have hng:lr q g:=by
     cases q with
     |cells a b o' n'=>
      obtain⟨l,r1,r2⟩:=hn;refine⟨l,?_,r2⟩;unfold ae at r1 ⊢;rcases a1 with⟨cs,a1⟩|⟨ob,a1,a1n⟩
      ·have:=a5 cs a1;simp only[RQ.dw]at a1 this;rw[this]at r1;rw[a1];exact r1
      ·simp only[RQ.dw]at a1 a4;exfalso;simp only[Option.bind_eq_some_iff]at r1;obtain⟨cs,r3,_⟩:=r1;obtain⟨f,t,th,r4⟩:=wI r3;rw[a4,a1]at r4;exact a1n _ _ _ _ (Option.some.inj r4)
     |look r kd k z ok=>
      obtain⟨mm,r1,r2⟩:=hn;refine⟨mm,?_,r2⟩;simp only[RQ.dw]at a4;unfold eO at r1 ⊢;rw[←a4];exact r1
     |len r=>
      obtain⟨mm,r1,r2⟩:=hn;refine⟨mm,?_,r2⟩;simp only[RQ.dw]at a4;unfold eO at r1 ⊢;rw[←a4];exact r1
    have:=(jb hng (.inr a2) a3).2;simp[aV,this]
  |yR bA hh hy zh hx aaY=>
   rename_i m p0 b0 v0 x0 y;have hb:zD ρ m (RQ.dw (.cells false b0 p0 1)):=.inl zh;have hn:lr (.cells false b0 p0 1) h:=⟨_,aaY,hx.Ch.1⟩;simp only[jX,Bool.and_eq_true,Bool.or_eq_true]at hp;refine⟨?_,jo hr cL hp.2 R8 (next _ _ bA fun m hm=>⟨hm,by simp⟩)⟩;rcases hp.1 with (ho|ho)|ho
   ·simp[aV,ho]
   ·simp only[Bool.not_eq_true']at ho;have hm:m∈nm:=by simpa using ho.1
    have P0:m∉wH:=by simpa using ho.2
    obtain⟨a1,a2,a3,a4,a5⟩:=(ht m hm P0).2 _ hb;have hng:lr (.cells false b0 p0 1) g:=by
     obtain⟨l,r1,r2⟩:=hn;refine⟨l,?_,r2⟩;unfold ae at r1 ⊢;rcases a1 with⟨cs,a1⟩|⟨ob,a1,a1n⟩
     ·have:=a5 cs a1;simp only[RQ.dw]at a1 this;rw[this]at r1;rw[a1];exact r1
     ·simp only[RQ.dw]at a1 a4;exfalso;simp only[Option.bind_eq_some_iff]at r1;obtain⟨cs,r3,_⟩:=r1;obtain⟨f,t,th,r4⟩:=wI r3;rw[a4,a1]at r4;exact a1n _ _ _ _ (Option.some.inj r4)
    have:=(jb hng (.inr a2) a3).2;simp[aV,this]
   ·obtain⟨b1,x1,k1,k2,k3,k4⟩:=hB _ _ _ ho.1 ho.2;rw[zh]at k1;cases k1;obtain rfl:=hx.uniq k4;have:fx g g' (.cells false b0 p0 1)=true:=by
     unfold fx;rw[Bool.or_eq_true];left;unfold kY;rw[bZ];split
     ·simp only[k2,k3,hx.Ch.1]
     ·rfl
    simp[aV,this]
  |dp bA=>
   simp only[jX,Bool.and_eq_true]at hp;exact⟨by simp[aV,hp.1],jo hr cL hp.2 R8 (next _ _ bA fun m hm=>by simp only[List.mem_append,not_or]at hm;exact hm)⟩
  |n9 bA hh=>
   simp only[jX,Bool.and_eq_true]at hp;exact⟨by simp[aV,hp.1],jo hr cL hp.2 R8 (next _ _ bA fun m hm=>by simp only[List.mem_append,not_or]at hm;exact hm)⟩
  |oc bA=>
   simp only[jX,Bool.and_eq_true]at hp;exact⟨by simp[aV,hp.1],jo hr cL hp.2 R8 (next _ _ bA fun m hm=>⟨hm,by simp⟩)⟩
  |bad=>exact absurd rfl (oi _ List.mem_cons_self)
theorem nA {g:ab}:∀{ls:List VN} {es:List ee} {ρ:Gh} {F:Nat→Prop} {o:Ob} {h:ab} {j:Nat},tP oF ρ F o h ls es→(∀l∈ls,l.1≠ .bad)→rY bs i j ls=true→cb bs i (.dp g g) j es=true
 |_,_,ρ,F,_,h,j,.nil _,_,_=>rfl
 |_,_,ρ,F,o,h,j,.cons (ls:=ls) hl hw hs hF cX PZ s6 bU hr,oi,hp=>by
  have cL:∀l∈ls,l.1≠ .bad:=fun l hl=>oi l (List.mem_cons_of_mem _ hl);simp only[cb,Bool.and_eq_true];cases hl with
  |pure bA=>exact⟨rfl,nA hr cL hp⟩
  |alloc bA=>exact⟨rfl,nA hr cL hp⟩
  |Hj bA=>exact⟨by simp[aV,gZ],nA hr cL hp⟩
  |kS bA=>exact⟨by simp[aV,gZ],nA hr cL hp⟩
  |yR bA=>exact⟨by simp[aV,gZ],nA hr cL hp⟩
  |dp bA=>simp only[rY,Bool.and_eq_true]at hp;exact⟨by simp[aV,hp.1],nA hr cL hp.2⟩
  |n9 bA=>simp only[rY,Bool.and_eq_true]at hp;exact⟨by simp[aV,hp.1],nA hr cL hp.2⟩
  |oc bA=>simp only[rY,Bool.and_eq_true]at hp;exact⟨by simp[aV,hp.1],nA hr cL hp.2⟩
  |bad=>exact absurd rfl (oi _ List.mem_cons_self)
theorem T9 {h h':ab} (W:Wf h) (same:∀x,x<h.size→h'.get x=h.get x) {b:Nat} {cs:List Value} (hr:h.rd b=some cs):h'.rd b=some cs:=by
 obtain⟨r,h1,h2,h3⟩:=rd_some hr;obtain⟨f1,t1,vS,hg⟩:=dI h3;obtain⟨cr,jJ⟩:=bI h1;obtain⟨ta,q1,q2,ma⟩:=dQ h1;rw[hg]at ma;cases ma;have a1:=same b (W.lt hg);have a2:=same r.1 (W.lt jJ);exact dO (bH (a1.trans hg) (a2.trans jJ)) h2 (az (a1.trans hg))
theorem P1 {h h':ab} (W:Wf h) (same:∀x,x<h.size→h'.get x=h.get x) {b:Nat} (hb:b<h.size) {cs:List Value} (hr:h'.rd b=some cs):h.rd b=some cs:=by
 obtain⟨r,h1,h2,h3⟩:=rd_some hr;obtain⟨f1,t1,vS,hg⟩:=dI h3;obtain⟨cr,jJ⟩:=bI h1;obtain⟨ta,q1,q2,ma⟩:=dQ h1;rw[hg]at ma;cases ma;have a1:=(same b hb).symm.trans hg;have hle:=W.le _ _ _ _ _ a1;have a2:=(same r.1 om).symm.trans jJ;exact dO (bH a1 a2) h2 (az a1)
theorem Ju {g g' h:ab} (W:Wf g) (hG:∀b,b<g.size→g'.get b=g.get b) (hq:∀b,b<g.size→h.get b=g.get b) {q:RQ} (hn:lr q h):fx g g' q=true:=by
 by_cases hb:q.dw<g.size
 ·have k1:=jb (h:=h) (h':=g) hn (.inr (hq _ hb).symm) fun cs hr=>P1 W hq hb hr;exact(jb k1.1 (.inr (hG _ hb)) fun cs hr=>T9 W hG hr).2
 ·unfold fx kY;have e:Nat.blt q.dw g.size=false:=by
   cases hx:Nat.blt q.dw g.size with
   |false=>rfl
   |true=>exact absurd (aR.1 hx) hb
  rw[e];rfl
theorem nB {g g':ab} (W:Wf g) (hG:∀b,b<g.size→g'.get b=g.get b):∀{ls:List VN} {es:List ee} {ρ:Gh} {F:Nat→Prop} {o:Ob} {h:ab} {q:Bool} {j:Nat},tP oF ρ F o h ls es→(∀l∈ls,l.1≠ .bad)→jz bs i q j ls=true→
 (q=true→g.size≤h.size∧∀b,b<g.size→h.get b=g.get b)→cb bs i (.dp g g') j es=true
 |_,_,ρ,F,_,h,q,j,.nil _,_,_,_=>rfl
 |_,_,ρ,F,o,h,q,j,.cons (ls:=ls) hl hw hs hF cX PZ s6 bU hr,oi,hp,hq=>by
  have cL:∀l∈ls,l.1≠ .bad:=fun l hl=>oi l (List.mem_cons_of_mem _ hl);simp only[cb,Bool.and_eq_true];have rdc:∀{x:RQ},(q||ordered bs i j)=true→lr x h→aV bs i (.dp g g') j (.rd x h)=true:=fun {x} ho hn=>by
   rcases Bool.or_eq_true _ _▸ho with e|e
   ·simp[aV,Ju W hG (hq e).2 hn]
   ·simp[aV,e]
  cases hl with
  |pure bA hh=>subst hh;exact⟨rfl,nB W hG hr cL hp hq⟩
  |alloc bA=>exact⟨rfl,nB W hG hr cL (q:=false) hp fun e=>by cases e⟩
  |Hj bA hh XO hc hn=>subst hh;simp only[jz,Bool.and_eq_true]at hp;exact⟨rdc hp.1 hn,nB W hG hr cL hp.2 hq⟩
  |kS bA hh hy hb hn=>subst hh;simp only[jz,Bool.and_eq_true]at hp;exact⟨rdc hp.1 hn,nB W hG hr cL hp.2 hq⟩
  |yR bA hh hy hb hx fW=>subst hh;simp only[jz,Bool.and_eq_true]at hp;exact⟨rdc hp.1 ⟨_,fW,hx.Ch.1⟩,nB W hG hr cL hp.2 hq⟩
  |dp bA=>simp only[jz,Bool.and_eq_true]at hp;exact⟨by simp[aV,hp.1],nB W hG hr cL (q:=false) hp.2 fun e=>by cases e⟩
  |n9 bA hh=>subst hh;simp only[jz,Bool.and_eq_true]at hp;exact⟨by simp[aV,hp.1],nB W hG hr cL hp.2 hq⟩
  |oc bA hG2=>
   simp only[jz,Bool.and_eq_true]at hp;exact⟨by simp[aV,hp.1],nB W hG hr cL hp.2 fun e=>⟨Nat.le_trans (hq e).1 hs,fun b hb=>(hG2 b (Nat.lt_of_lt_of_le hb (hq e).1)).trans ((hq e).2 b hb)⟩⟩
  |bad=>exact absurd rfl (oi _ List.mem_cons_self)
theorem Dz:∀{es:List ee} {j:Nat},cb bs i .pure j es=true
 |[],_=>rfl
 |e::es,j=>by simp only[cb,Bool.and_eq_true];exact⟨by cases e<;>rfl,Dz⟩
theorem zM {g g':ab} (W:Wf g):∀{es:List ee} {j:Nat},cb bs i (.alloc g g') j es=true
 |[],_=>rfl
 |e::es,j=>by
  simp only[cb,Bool.and_eq_true];exact⟨by cases e<;>first|rfl |exact vC W _,zM W⟩
theorem fU:∀{ls:List VN} {es:List ee} {ρ:Gh} {F:Nat→Prop} {o:Ob} {h:ab} {j:Nat},tP oF ρ F o h ls es→fy bs oF j ls=true→kZ bs j es=true
 |_,_,ρ,F,_,h,j,.nil _,_=>rfl
 |_,_,ρ,F,o,h,j,.cons (h':=h') (l:=l) (e:=e) (ls:=ls) hl hw hs hF cX PZ s6 bU hr,hd=>by
  have oi:=sr hd;have cL:∀l∈ls,l.1≠ .bad:=fun l hl=>oi l (List.mem_cons_of_mem _ hl);simp only[kZ,Bool.and_eq_true];cases hl with
  |pure=>exact⟨⟨rfl,Dz⟩,fU hr hd⟩
  |alloc=>exact⟨⟨rfl,zM hw⟩,fU hr hd⟩
  |Hj bA hh XO hc hn=>subst hh;exact⟨⟨by simp only[lJ,aR];exact xh hw hn,RZ hc hr cL (hF _ XO) hn⟩,fU hr hd⟩
  |kS bA hh hy hb hn=>
   subst hh;simp only[fy,Bool.and_eq_true]at hd;refine⟨⟨by simp only[lJ,aR];exact xh hw hn,oY hr cL hd.1 fun _=>?_⟩,fU hr hd.2⟩;obtain⟨⟨y',r1⟩,r2,_⟩:=bA _ _ hy (by simp);exact⟨⟨y',r1⟩,by unfold zD at hb ⊢;rw[r2];exact hb,hn⟩
  |yR bA hh hy hb hx fW=>
   rename_i nn pp bb vv xx yy;subst hh;simp only[fy,Bool.and_eq_true]at hd;have hn:lr (.cells false _ _ 1) _:=⟨_,fW,hx.Ch.1⟩;refine⟨⟨by simp only[lJ,aR];exact xh hw hn,jc (x:=xx) hr cL hd.1 fun _=>?_⟩,fU hr hd.2⟩;obtain⟨⟨y',r1⟩,r2,_⟩:=bA _ _ hy (by simp);exact⟨⟨y',r1⟩,s6 _ _ hb,fW,hx.bk s6⟩
  |dp bA=>
   simp only[fy,Bool.and_eq_true]at hd;refine⟨⟨by simp only[lJ,aG];exact hs,jo hr cL hd.1 (by rw[hr.next.1];exact Mq bU hr.next.2 s6) fun m hm P0=>?_⟩,fU hr hd.2⟩;obtain⟨y,hy⟩:=xg hm;obtain⟨⟨y',r1⟩,r2,r3⟩:=bA m y hy P0;refine⟨⟨y',r1⟩,fun b hb=>?_⟩;have bL:zD ρ m b:=by unfold zD at hb ⊢;rw[←r2];exact hb
   obtain⟨b1,b2⟩:=r3 b bL;exact⟨PZ m y b hy bL,b1,b2,b1,b2⟩
  |n9 bA hh=>
   subst hh;simp only[fy,Bool.and_eq_true]at hd;exact⟨⟨by simp only[lJ,aG];exact hs,nA hr cL hd.1⟩,fU hr hd.2⟩
  |oc bA hG=>
   simp only[fy,Bool.and_eq_true,Bool.or_eq_true]at hd;refine⟨⟨by simp only[lJ,aG];exact hs,?_⟩,fU hr hd.2⟩;rcases hd.1 with Cj|Cj
   ·exact nB hw hG hr cL Cj fun _=>⟨hs,hG⟩
   ·refine jo hr cL Cj (by rw[hr.next.1];exact Mq bU hr.next.2 s6) fun m hm P0=>?_;obtain⟨y,hy⟩:=xg hm;obtain⟨⟨y',r1⟩,r2,r3⟩:=bA m y hy P0;refine⟨⟨y',r1⟩,fun b hb=>?_⟩;have bL:zD ρ m b:=by unfold zD at hb ⊢;rw[←r2];exact hb
    obtain⟨b1,b2⟩:=r3 b bL;exact⟨PZ m y b hy bL,b1,b2,b1,b2⟩
  |bad=>exact absurd rfl (oi _ List.mem_cons_self)
end
section
variable {T E:Env} {X:Cx} {ρ:Gh} {F:Nat→Prop} {o:Ob} {c n:Nat} {af:AF} {f:Fr} {h:ab} {ops:List Oper}
theorem pN (p:Nat×TV) (f:Fr) (t:Nat):nk (p::f) t=if p.1=t then p.2 else nk f t:=by
 show(match Nat.beq p.1 t with|true=>p.2|false=>nk f t)=_;rw[C3];by_cases h:p.1=t<;>simp[h]
theorem vD {d:Option Tmp} {v:TV} {x:Value} {K:Fr→Prop} (hw:rZ d n v f K) (S:dz c ρ F h f af) (hn:af.n=n) (hv:VR c ρ F h v x):∃f',K f'∧dz c ρ F h f' (af.put d x)∧(af.put d x).n=n:=by
 unfold rZ at hw;cases d with
 |none=>exact⟨f,hw,S,hn⟩
 |some t=>
  simp only at hw;split at hw
  ·rename_i ht;rw[aR]at ht;refine⟨_,hw,fun u=>?_,by rw[AF.Rs];exact hn⟩;rw[pN];show VR c ρ F h _ ((af.set t x).get u);rw[AF.gQ];by_cases e:t=u
   ·subst e;rw[if_pos rfl,if_pos ⟨rfl,om⟩];exact hv
   ·rw[if_neg e,if_neg (fun e2=>e e2.1.symm)];exact S u
  ·exact hw.elim
theorem zN {p:Oper} {K1 K2:Prop} (hw:oS ops p f K1 K2) (S:dz c ρ F h f af):(wanted ops p af=true∧K1)∨(wanted ops p af=false∧K2):=by
 unfold oS at hw;unfold wanted;split at hw
 ·rename_i hg;rw[hg];exact .inl ⟨rfl,hw⟩
 ·rename_i j want hg;rw[hg];simp only
  split at hw
  ·exact hw.elim
  ·rename_i q hq;rw[hq];simp only[Option.bind_some];split at hw
   ·exact hw.elim
   ·rename_i t ht;rw[ht];simp only
    split at hw
    ·rename_i b hb;have:=S t;rw[hb]at this;rw[this.dF.1];simp only
     cases b<;>cases want<;>simp only at hw<;>simp[hw]
    ·rename_i hb;have:=S t;rw[hb]at this;obtain⟨a,ha,hl⟩:=this.r9;rw[ha];exact .inr ⟨rfl,hw⟩
    ·exact hw.elim
theorem BH (L:ck T E) (NX:FA E X) {K:RK}:∀(rest:List Oper) {ρ:Gh} {F:Nat→Prop} {o:Ob} {c:Nat} {f:Fr} {af:AF} {h:ab},C1 T (VC E) n ops rest f o c K→Mem X ρ F o c h→dz c ρ F h f af→af.n=n→
 ∃n0 vg h' f' o' c' ρ' F',(∀m,n0≤m→u4 E X.base (fJ E X.base m) (gP X.base (a7 E X.base m)) ops rest af h=some (vg,h'))∧K f' o' c'∧Nx X ρ F o c h ρ' F' o' c' h'∧dz c' ρ' F' h' f' vg∧vg.n=n
 |[],ρ,F,o,c,f,af,h,hw,H,S,hn=>⟨0,af,h,f,o,c,ρ,F,fun m _=>rfl,hw,.refl H,S,hn⟩
 |p::rest,ρ,F,o,c,f,af,h,hw,H,S,hn=>by
  simp only[C1]at hw;rcases zN hw S with⟨qe,hw⟩|⟨qe,hw⟩
  ·obtain⟨n1,r,v,o1,c1,hZ,F1,lg,h1,h2,N,hv,_⟩:=Mp L NX H S hw;have S1:dz c1 hZ F1 r.h f af:=fun t=>N.bk _ _ (S t);obtain⟨f1,h3,S2,PM⟩:=vD h2 S1 hn hv;obtain⟨n2,vg,h',f',o',c',ρ',F',k1,k2,N2,k3,k4⟩:=BH L NX rest h3 N.mem S2 PM;refine⟨max n1 n2,vg,h',f',o',c',ρ',F',fun m hm=>?_,k2,⟨N2.mem,fun t x hx=>N2.bk t x (N.bk t x hx),Nat.le_trans N.size N2.size,fun b hb=>N2.FF b (N.FF b hb),fun b cs hb hr=>N2.cX b cs (N.FF b hb) (N.cX b cs hb hr)⟩,k3,k4⟩;unfold u4;rw[qe];simp only
   rw[h1 m om];simp only[Option.bind_some];exact k1 m om
  ·obtain⟨f1,h3,S2,PM⟩:=vD hw S hn (show VR _ _ _ _ (.cY []) undef from .cY rfl fun i t v h=>by simp at h);obtain⟨n2,vg,h',f',o',c',ρ',F',k1,k2,N2,k3,k4⟩:=BH L NX rest h3 H S2 PM;refine⟨n2,vg,h',f',o',c',ρ',F',fun m hm=>?_,k2,N2,k3,k4⟩;unfold u4;rw[qe];exact k1 m hm
theorem xl (L:ck T E) (NX:FA E X) {K:List VN→RK}:∀(rest:List Oper) {ρ:Gh} {F:Nat→Prop} {o:Ob} {c:Nat} {f:Fr} {af:AF} {h:ab} {lg:List VN},r7 T (VC E) n ops rest f o c lg K→Mem X ρ F o c h→dz c ρ F h f af→af.n=n→
 ∃n0 vg h' es f' o' c' ρ' F' ls,(∀m,n0≤m→kX E X.base (fJ E X.base m) (gP X.base (a7 E X.base m)) ops rest af h=some (vg,h',es))∧K (lg++ls) f' o' c'∧Nx X ρ F o c h ρ' F' o' c' h'∧dz c' ρ' F' h' f' vg∧vg.n=n∧
  tP o' ρ F o h ls es
 |[],ρ,F,o,c,f,af,h,lg,hw,H,S,hn=>⟨0,af,h,[],f,o,c,ρ,F,[],fun m _=>rfl,by simpa[r7]using hw,.refl H,S,hn,.nil H.BG⟩
 |p::rest,ρ,F,o,c,f,af,h,lg,hw,H,S,hn=>by
  simp only[r7]at hw;rcases zN hw S with⟨qe,hw⟩|⟨qe,hw⟩
  ·obtain⟨n1,r,v,o1,c1,hZ,F1,l,h1,h2,N,hv,kU⟩:=Mp L NX H S hw;have S1:dz c1 hZ F1 r.h f af:=fun t=>N.bk _ _ (S t);obtain⟨f1,h3,S2,PM⟩:=vD h2 S1 hn hv;obtain⟨n2,vg,h',es,f',o',c',ρ',F',ls,k1,k2,N2,k3,k4,k5⟩:=xl L NX rest h3 N.mem S2 PM
   refine⟨max n1 n2,vg,h',r.log::es,f',o',c',ρ',F',(l,o)::ls,fun m hm=>?_,by simpa using k2,⟨N2.mem,fun t x hx=>N2.bk t x (N.bk t x hx),Nat.le_trans N.size N2.size,fun b hb=>N2.FF b (N.FF b hb),fun b cs hb hr=>N2.cX b cs (N.FF b hb) (N.cX b cs hb hr)⟩,k3,k4,
    .cons kU H.wf N.size N.FF N.cX (fun m y b hy hb=>H.live hy hb) (fun k b hk=>by cases N.bk _ _ (VR.mp (c:=c) (F:=F) (h:=h) hk)with|mp h'=>exact h') H.BG k5⟩
   unfold kX;rw[qe];simp only
   rw[h1 m om];simp only[Option.bind_some];rw[k1 m om];rfl
  ·obtain⟨f1,h3,S2,PM⟩:=vD hw S hn (show VR _ _ _ _ (.cY []) undef from .cY rfl fun i t v h=>by simp at h);obtain⟨n2,vg,h',es,f',o',c',ρ',F',ls,k1,k2,N2,k3,k4,k5⟩:=xl L NX rest h3 H S2 PM;refine⟨n2,vg,h',.pure::es,f',o',c',ρ',F',(.pure,o)::ls,fun m hm=>?_,by simpa using k2,N2,k3,k4,.cons (.pure (.refl _) rfl) H.wf (Nat.le_refl _) (fun _ h=>h) (fun _ _ _ hr=>hr) (fun m y b hy hb=>H.live hy hb) (fun _ _ h=>h) H.BG k5⟩;unfold kX;rw[qe];simp only
   rw[k1 m hm];rfl
end
section
variable {T E:Env} {X:Cx} {n:Nat}
theorem Mr {ids:List (Option Nat)} {o:Ob} {f f1:Fr} {t:Nat} (L:VU ids o f f1):W9 ids o (nk f t) (nk f1 t)∨nk f1 t= .j:=by
 induction L with
 |nil=>exact .inr rfl
 |cons h _ ih=>
  rw[pN];split
  ·rename_i e;subst e;exact .inl h
  ·exact ih
theorem adapt {ρ:Gh} {F:Nat→Prop} {o:Ob} {c:Nat} {f:Fr} {af:AF} {h:ab} (H:Mem X ρ F o c h) (S:dz c ρ F h f af) {sh:List Nat} {ids:List (Option Nat)} {U:List Nat} {f1:Fr} {o1:Ob} (hi:(iu c ids&&oP X.c0 0 ids&&lQ ids U)=true)
 (hf:VU ids (cg sh o) f f1) (ho:Hm ids (cg sh o) U o1):∃ρ' F',Mem X ρ' F' o1 ids.length h∧dz ids.length ρ' F' h f1 af:=by
 simp only[Bool.and_eq_true]at hi;obtain⟨F1,S1⟩:=jE H sh;refine⟨_,F1,S1.mem.le hi.1.1 hi.1.2 hi.2 ho,fun t=>?_⟩;rcases Mr (t:=t) hf with h1|h1
 ·exact pG S1.mem _ _ _ h1 (S1.bk _ _ (S t))
 ·rw[h1];exact .j _
def mA (E:Env) (base:Nat) (code:Code) (af:AF) (h:ab) (r:Ex×AF×ab):Prop:=∃n0,∀m,n0≤m→a7 E base m code af h=some r
def Comes (E:Env) (X:Cx) (n:Nat) (code:Code) (af:AF) (h:ab) (Q:CK):Prop:=
 ∃ex vg h' f' o' c' ρ' F',mA E X.base code af h (ex,vg,h')∧Q ex f' o' c'∧Mem X ρ' F' o' c' h'∧dz c' ρ' F' h' f' vg∧vg.n=n
theorem mA.aa0 {a b:Code} {af nX:AF} {h h1:ab} {r:Ex×AF×ab} {base:Nat} (A:mA E base a af h (.normal,nX,h1)) (B:mA E base b nX h1 r):mA E base (.seq a b) af h r:=by
 obtain⟨n1,A⟩:=A;obtain⟨n2,B⟩:=B;refine⟨max n1 n2+1,fun m hm=>?_⟩;obtain⟨k,rfl⟩:∃k,m=k+1:=⟨m - 1,om⟩;simp only[a7];rw[A k om];exact B k om
theorem mA.XQ {a b:Code} {af nX:AF} {h h1:ab} {ex:Ex} {base:Nat} (A:mA E base a af h (ex,nX,h1)) (hx:ex≠ .normal):mA E base (.seq a b) af h (ex,nX,h1):=by
 obtain⟨n1,A⟩:=A;refine⟨n1+1,fun m hm=>?_⟩;obtain⟨k,rfl⟩:∃k,m=k+1:=⟨m - 1,om⟩;simp only[a7];rw[A k om];cases ex<;>first|rfl |exact absurd rfl hx
theorem mA.R9 {b:Code} {af nX:AF} {h h1:ab} {r:Ex×AF×ab} {base:Nat} (A:mA E base b af h (.normal,nX,h1)) (B:mA E base (.loop b) nX h1 r):mA E base (.loop b) af h r:=by
 obtain⟨n1,A⟩:=A;obtain⟨n2,B⟩:=B;refine⟨max n1 n2+1,fun m hm=>?_⟩;obtain⟨k,rfl⟩:∃k,m=k+1:=⟨m - 1,om⟩;simp only[a7];rw[A k om];exact B k om
theorem mA.HT {b:Code} {af nX:AF} {h h1:ab} {ex:Ex} {base:Nat} (A:mA E base b af h (ex,nX,h1)) (hx:ex≠ .normal):mA E base (.loop b) af h (ex,nX,h1):=by
 obtain⟨n1,A⟩:=A;refine⟨n1+1,fun m hm=>?_⟩;obtain⟨k,rfl⟩:∃k,m=k+1:=⟨m - 1,om⟩;simp only[a7];rw[A k om];cases ex<;>first|rfl |exact absurd rfl hx
theorem mA.one {c:Code} {af:AF} {h:ab} {r:Ex×AF×ab} {base:Nat} (hx:∀k,a7 E base (k+1) c af h=some r):mA E base c af h r:=
 ⟨1,fun m hm=>by obtain⟨k,rfl⟩:∃k,m=k+1:=⟨m - 1,om⟩;exact hx k⟩
theorem pO {ρ:Gh} {F:Nat→Prop} {o:Ob} {c:Nat} {f:Fr} {af:AF} {h:ab} {K:RK} (H:Mem X ρ F o c h) (S:dz c ρ F h f af) (ht:iX X.c0 f o c K):∃f1 o1 c1 ρ' F',K f1 o1 c1∧Mem X ρ' F' o1 c1 h∧dz c1 ρ' F' h f1 af:=by
 obtain⟨sh,ids,U,f1,o1,⟨hf,ho,hi⟩,hK⟩:=ht;obtain⟨ρ',F',H',S'⟩:=adapt H S hi hf ho;exact⟨f1,o1,_,ρ',F',hK,H',S'⟩
theorem XR {dK:List Nat} (L:ck T E) (NX:FA E X):∀(code:Code) {ρ:Gh} {F:Nat→Prop} {o:Ob} {c:Nat} {f:Fr} {af:AF} {h:ab} {Q:CK},wp T (VC E) n X.c0 dK code f o c Q→Mem X ρ F o c h→dz c ρ F h f af→af.n=n→Comes E X n code af h Q:=by
 intro code
 induction code with
 |skip=>intro ρ F o c f af h Q hw H S hn;exact⟨.normal,af,h,f,o,c,ρ,F,.one fun k=>rfl,hw,H,S,hn⟩
 |exit id=>intro ρ F o c f af h Q hw H S hn;exact⟨.exit id,af,h,f,o,c,ρ,F,.one fun k=>rfl,hw,H,S,hn⟩
 |ret=>intro ρ F o c f af h Q hw H S hn;exact⟨.ret,af,h,f,o,c,ρ,F,.one fun k=>rfl,hw,H,S,hn⟩
 |region id ops draw=>
  intro ρ F o c f af h Q hw H S hn;simp only[wp]at hw;cases draw with
  |false=>
   obtain⟨n0,vg,h',f',o',c',ρ',F',k1,k2,N,k3,k4⟩:=BH L NX ops.toList hw H S hn;refine⟨.normal,vg,h',f',o',c',ρ',F',⟨n0+1,fun m hm=>?_⟩,k2,N.mem,k3,k4⟩;obtain⟨k,rfl⟩:∃k,m=k+1:=⟨m - 1,om⟩;simp only[a7,k8];have:=k1 k om;unfold fJ at this;rw[this];rfl
  |true=>
   simp only at hw;split at hw
   ·rename_i ct;obtain⟨n0,vg,h',es,f',o',c',ρ',F',ls,k1,k2,N,k3,k4,k5⟩:=xl L NX ops.toList hw H S hn;simp only[List.nil_append]at k2;split at k2
    ·rename_i hd;refine⟨.normal,vg,h',f',o',c',ρ',F',⟨n0+1,fun m hm=>?_⟩,k2,N.mem,k3,k4⟩;obtain⟨k,rfl⟩:∃k,m=k+1:=⟨m - 1,om⟩;simp only[a7,k8];have:=k1 k om;unfold fJ at this;rw[hn,ct,this];simp only[bC,Option.bind_some];rw[fU k5 hd]
    ·exact k2.elim
   ·exact hw.elim
 |seq a b XS XT=>
  intro ρ F o c f af h Q hw H S hn;simp only[wp]at hw;obtain⟨ex,nX,h1,f1,o1,c1,hZ,F1,r1,q1,H1,S1,n1⟩:=XS hw H S hn;cases ex with
  |normal=>
   obtain⟨Ua,af2,h2,f2,o2,c2,V7,F2,r2,q2,H2,S2,n2⟩:=XT q1 H1 S1 n1;exact⟨Ua,af2,h2,f2,o2,c2,V7,F2,r1.aa0 r2,q2,H2,S2,n2⟩
  |exit id=>exact⟨.exit id,nX,h1,f1,o1,c1,hZ,F1,r1.XQ (by simp),q1,H1,S1,n1⟩
  |ret=>exact⟨.ret,nX,h1,f1,o1,c1,hZ,F1,r1.XQ (by simp),q1,H1,S1,n1⟩
 |cond q t e XU XV=>
  intro ρ F o c f af h Q hw H S hn;simp only[wp]at hw;split at hw
  ·exact hw.elim
  ·rename_i ly;obtain⟨v,h1,h2⟩:=pI (E:=E) L ((NX.now H).sub L) S ly;split at hw
   ·rename_i b hb;rw[hb]at h2;have:=h2.dF.1;subst this;have key:∀{x:Code} {r:Ex×AF×ab},mA E X.base x af h r→(∀k,a7 E X.base (k+1) (.cond q t e) af h=a7 E X.base k x af h)→mA E X.base (.cond q t e) af h r:=by
     rintro x r ⟨n0,hr⟩ hk;refine⟨n0+1,fun m hm=>?_⟩;obtain⟨k,rfl⟩:∃k,m=k+1:=⟨m - 1,om⟩;rw[hk];exact hr k om
    split at hw
    ·obtain⟨ex,nX,yu,f1,o1,c1,hZ,F1,r1,q1,H1,S1,n1⟩:=XU hw H S hn;exact⟨ex,nX,yu,f1,o1,c1,hZ,F1,key r1 fun k=>by simp only[a7,h1,Option.bind_some,Cg],q1,H1,S1,n1⟩
    ·obtain⟨ex,nX,yu,f1,o1,c1,hZ,F1,r1,q1,H1,S1,n1⟩:=XV hw H S hn;exact⟨ex,nX,yu,f1,o1,c1,hZ,F1,key r1 fun k=>by simp only[a7,h1,Option.bind_some,Cg],q1,H1,S1,n1⟩
   ·exact hw.elim
 |block id b ih=>
  intro ρ F o c f af h Q hw H S hn;simp only[wp]at hw
  have key:∀{n0:Nat} {Ua:Ex} {nX:AF} {h1:ab},(∀k,n0≤k→a7 E X.base (k+1) (.block id b) af h=some (Ua,nX,h1))→mA E X.base (.block id b) af h (Ua,nX,h1):=fun {n0} {Ua} {nX} {h1} hk=>
   ⟨n0+1,fun m hm=>by obtain⟨k,rfl⟩:∃k,m=k+1:=⟨m - 1,om⟩;exact hk k om⟩
  split at hw
  ·obtain⟨ex,nX,h1,f1,o1,c1,hZ,F1,⟨n0,r1⟩,q1,H1,S1,n1⟩:=ih hw H S hn;cases ex with
   |normal=>exact⟨.normal,nX,h1,f1,o1,c1,hZ,F1,key (n0:=n0) fun k hk=>by simp only[a7,r1 k hk],q1,H1,S1,n1⟩
   |ret=>exact⟨.ret,nX,h1,f1,o1,c1,hZ,F1,key (n0:=n0) fun k hk=>by simp only[a7,r1 k hk],q1,H1,S1,n1⟩
   |exit mS=>
    simp only at q1;split at q1
    ·rename_i Ub;exact⟨.normal,nX,h1,f1,o1,c1,hZ,F1,key (n0:=n0) fun k hk=>by simp only[a7,r1 k hk,Ub,cond_true],q1,H1,S1,n1⟩
    ·rename_i Ub;exact⟨.exit mS,nX,h1,f1,o1,c1,hZ,F1,key (n0:=n0) fun k hk=>by simp only[a7,r1 k hk,Ub,cond_false],q1,H1,S1,n1⟩
  ·obtain⟨KQ,hw,XW⟩:=hw;obtain⟨ex,nX,h1,f1,o1,c1,hZ,F1,⟨n0,r1⟩,q1,H1,S1,n1⟩:=ih hw H S hn;cases ex with
   |normal=>
    obtain⟨f2,o2,c2,V7,F2,hM,H2,S2⟩:=pO H1 S1 q1;exact⟨.normal,nX,h1,f2,o2,c2,V7,F2,key (n0:=n0) fun k hk=>by simp only[a7,r1 k hk],XW _ _ _ hM,H2,S2,n1⟩
   |ret=>exact⟨.ret,nX,h1,f1,o1,c1,hZ,F1,key (n0:=n0) fun k hk=>by simp only[a7,r1 k hk],q1,H1,S1,n1⟩
   |exit mS=>
    simp only at q1;split at q1
    ·rename_i Ub;obtain⟨f2,o2,c2,V7,F2,hM,H2,S2⟩:=pO H1 S1 q1;exact⟨.normal,nX,h1,f2,o2,c2,V7,F2,key (n0:=n0) fun k hk=>by simp only[a7,r1 k hk,Ub,cond_true],XW _ _ _ hM,H2,S2,n1⟩
    ·rename_i Ub;exact⟨.exit mS,nX,h1,f1,o1,c1,hZ,F1,key (n0:=n0) fun k hk=>by simp only[a7,r1 k hk,Ub,cond_false],q1,H1,S1,n1⟩
 |loop b ih=>
  intro ρ F o c f af h Q hw H S hn;simp only[wp]at hw;split at hw;rotate_left
  ·have main:∀(k:Nat) {ρ:Gh} {F:Nat→Prop} {o:Ob} {c:Nat} {f:Fr} {af:AF} {h:ab},zw (fun f o c Q=>wp T (VC E) n X.c0 dK b f o c Q) k f o c Q→Mem X ρ F o c h→dz c ρ F h f af→af.n=n→Comes E X n (.loop b) af h Q:=by
    intro k
    induction k with
    |zero=>intro ρ F o c f af h hw;exact hw.elim
    |succ k ihk=>
     intro ρ F o c f af h hw H S hn;simp only[zw]at hw;obtain⟨ex,nX,h1,f1,o1,c1,hZ,F1,r1,q1,H1,S1,n1⟩:=ih hw H S hn;cases ex with
     |normal=>
      obtain⟨ex,af3,h3,f3,o3,c3,ρ3,F3,r3,q3,H3,S3,n3⟩:=ihk q1 H1 S1 n1;exact⟨ex,af3,h3,f3,o3,c3,ρ3,F3,r1.R9 r3,q3,H3,S3,n3⟩
     |exit id=>exact⟨.exit id,nX,h1,f1,o1,c1,hZ,F1,r1.HT (by simp),q1,H1,S1,n1⟩
     |ret=>exact⟨.ret,nX,h1,f1,o1,c1,hZ,F1,r1.HT (by simp),q1,H1,S1,n1⟩
   exact main 64 hw H S hn
  obtain⟨Inv,⟨k0,hI⟩,XX⟩:=hw;obtain⟨f1,o1,c1,hZ,F1,hI1,H1,S1⟩:=pO H S hI;have main:∀(k:Nat) {ρ:Gh} {F:Nat→Prop} {o:Ob} {c:Nat} {f:Fr} {af:AF} {h:ab},Inv k f o c→Mem X ρ F o c h→dz c ρ F h f af→af.n=n→Comes E X n (.loop b) af h Q:=by
   intro k
   induction k using Nat.strongRecOn with
   |ind k ihk=>
    intro ρ F o c f af h hI H S hn;obtain⟨ex,nX,h1,f1,o1,c1,hZ,F1,r1,q1,H1,S1,n1⟩:=ih (XX k f o c hI) H S hn;cases ex with
    |normal=>
     obtain⟨k',ht,bF⟩:=q1;obtain⟨f2,o2,c2,V7,F2,hI2,H2,S2⟩:=pO H1 S1 ht;obtain⟨ex,af3,h3,f3,o3,c3,ρ3,F3,r3,q3,H3,S3,n3⟩:=ihk k' bF hI2 H2 S2 n1;exact⟨ex,af3,h3,f3,o3,c3,ρ3,F3,r1.R9 r3,q3,H3,S3,n3⟩
    |exit id=>exact⟨.exit id,nX,h1,f1,o1,c1,hZ,F1,r1.HT (by simp),q1,H1,S1,n1⟩
    |ret=>exact⟨.ret,nX,h1,f1,o1,c1,hZ,F1,r1.HT (by simp),q1,H1,S1,n1⟩
  exact main k0 hI1 H1 S1 hn
 |_=>intro ρ F o c f af h Q hw H S hn;exact hw.elim
end
section
variable {T E:Env} {X:Cx} {ρ:Gh} {F:Nat→Prop} {o:Ob} {c n:Nat} {f:Fr} {af:AF} {h:ab}
theorem qT:∀(l:List Value) (i:Nat) (f:AF) (t:Nat),(AF.ou l i f).get t=(if i≤t∧t<i+l.length∧t<f.n then(match l[t - i]? with|some v=>v|none=>undef)else f.get t)∧(AF.ou l i f).n=f.n
 |[],i,f,t=>by
  refine⟨?_,rfl⟩;rw[if_neg (by simp only[List.length_nil];omega)];rfl
 |v::l,i,f,t=>by
  simp only[AF.ou];obtain⟨h1,h2⟩:=qT l (i+1) (f.set i v) t;rw[AF.zg]at h1 h2;refine⟨?_,h2⟩;rw[h1];by_cases hx:i+1≤t∧t<i+1+l.length∧t<f.n
  ·rw[if_pos hx,if_pos (by simp only[List.length_cons];omega)];have:t - i=(t - (i+1))+1:=by omega
   rw[this,List.getElem?_cons_succ]
  ·rw[if_neg hx,AF.gQ];by_cases e:t=i
   ·subst e;by_cases hn:t<f.n
    ·rw[if_pos ⟨rfl,hn⟩,if_pos (by simp only[List.length_cons];omega)];simp
    ·rw[if_neg (fun h=>hn h.2),if_neg om]
   ·rw[if_neg (fun h=>e h.1),if_neg (by simp only[List.length_cons];omega)]
theorem zO:∀(l:List TV) (i t:Nat),nk (r8 i l) t=if i≤t then(match l[t - i]? with|some v=>v|none=>.j)else .j
 |[],i,t=>by simp[r8,nk]
 |v::l,i,t=>by
  simp only[r8];rw[pN,zO l (i+1) t];by_cases e:i=t
  ·subst e;simp
  ·rw[if_neg e];by_cases hx:i+1≤t
   ·rw[if_pos hx,if_pos om];have:t - i=(t - (i+1))+1:=by omega
    rw[this,List.getElem?_cons_succ]
   ·rw[if_neg hx];by_cases hy:i≤t
    ·omega
    ·rw[if_neg hy]
theorem DA {args:List TV} {eE:List Value} (H:dH c ρ F h args eE) (hn:args.length≤n):dz c ρ F h (r8 0 args) (AF.enter eE n)∧(AF.enter eE n).n=n:=by
 refine⟨fun t=>?_,(qT eE 0 _ 0).2⟩;rw[zO,if_pos (Nat.zero_le _)];cases ht:args[t - 0]? with
 |none=>exact .j _
 |some v=>
  simp only
  have bF:=(List.getElem?_eq_some_iff.1 ht).1;obtain⟨x,hx⟩:∃x,eE[t - 0]? =some x:=⟨_,List.getElem?_eq_getElem (by rw[←H.1];exact bF)⟩;have:=(qT eE 0 ⟨.nil,n⟩ t).1;unfold AF.enter;rw[this,if_pos ⟨Nat.zero_le _,by rw[←H.1];omega,by simp only;omega⟩,hx];exact H.2 _ _ _ ht hx
theorem xm (L:ck T E) (H:Mem X ρ F o c h) (S:dz c ρ F h f af):∀{rs:List ResultVar} {vs:List TV},C2 T f o rs=some vs→∃xs,dg E h af rs=some xs∧dH c ρ F h vs xs
 |[],vs,hv=>by simp[C2]at hv;subst hv;exact⟨[],rfl,.nil⟩
 | .tmp t::l,vs,hv=>by
  unfold C2 at hv;split at hv
  ·rename_i ws hws;cases hv;obtain⟨xs,h1,h2⟩:=xm L H S hws;exact⟨_,by simp[dg,h1],.cons (S t) h2⟩
  ·cases hv
 | .cell a t::l,vs,hv=>by
  unfold C2 at hv;split at hv
  ·rename_i m q agg n ha hs;split at hv
   ·rename_i cs hl;split at hv
    ·rename_i w hw;split at hv
     ·rename_i v ws sZ hws nq;cases hv;obtain⟨xs,h1,h2⟩:=xm L H S hws;obtain⟨Sm,hO⟩:=H.b8 hl;have hp:=S a;rw[ha]at hp;cases hO with
      |cells hb hg nW hc=>
       rename_i Sq b aO cs';cases hE:af.get a with
       |pointer p=>
        rw[hE]at hp;cases hp with
        |ptr bL=>
         rw[hb]at bL;cases bL;rw[aU]at hw;obtain⟨w1,rfl⟩:=hw;obtain⟨S1,S2,S3,_,a1,a2,a3⟩:=hc.part q n;obtain⟨k2,_⟩:=a2.VX (fun t v hv hf=>hv.dL hf) nq;have k1:takeN n (cs'.drop q)=some ((cs'.drop q).take n):=by
          rw[aU];have:=hc.len;simp only[List.length_drop]at w1 ⊢;exact⟨om,trivial⟩
         obtain⟨x,k3,k4⟩:=fR sZ k2;have Dn:M.ae h b q n=some ((cs'.drop q).take n):=by
          unfold M.ae;rw[dO (bH hg hg) nW (az hg)];exact k1
         exact⟨x::xs,by simp[dg,hE,iR,L.shape hs,Dn,k3,h1],.cons k4 h2⟩
       |_=>rw[hE]at hp;cases hp
     ·cases hv
    ·cases hv
   ·cases hv
  ·cases hv
theorem P2 {vs:List TV} {xs:List Value} (H:dH c ρ F h vs xs):VR c ρ F h (TD vs) (cQ xs):=by
 match vs,xs,H with
 |[],xs,H=>rw[H.bK];exact .iw .nil
 |[v],xs,H=>
  obtain⟨x,m,rfl,h1,h2⟩:=H.aQ;rw[h2.bK];exact h1
 |v::w::l,xs,H=>
  obtain⟨x,m,rfl,h1,h2⟩:=H.aQ;obtain⟨y,m',rfl,h3,h4⟩:=h2.aQ;exact .iw (by simpa using dH.cons h1 (.cons h3 h4))
theorem VC.Uc (L:ck T E) {g:FuncId} {fn:Func} {code:Code} {c0:Nat} {args:List TV} {o0:Ob} {R:TV→Ob→Nat→Prop} (hf:E.func g=some fn)
 (ho:∀base ρ F h S eE,Mem (yF base ρ F o0 c0 h S) ρ F o0 c0 h→dH c0 ρ F h args eE→E.uZ base g eE h=none) (hb:fn.body=some code) (hlen:Nat.ble args.length fn.ntmps=true)
 (dK:List Nat) (hw:wp T (VC E) fn.ntmps c0 dK code (r8 0 args) o0 c0 (LP T c0 fn.results.toList R)):VC E g c0 args o0 R:=by
 intro base ρ F h S0 eE HN H HO Ms;obtain⟨S,hn⟩:=DA Ms (aG.1 hlen);obtain⟨ex,vg,h',f',o',c',ρ',F',⟨n0,hr⟩,hq,M',S',Ph⟩:=XR (X:=yF base ρ F o0 c0 h S0) L HN code hw H S hn;unfold LP at hq
 have fin:∀{vs:List TV} {sh:List Nat} {ids:List (Option Nat)} {U:List Nat} {r:TV} {o1:Ob},(ex= .normal∨ex= .ret)→C2 T f' o' fn.results.toList=some vs→(iu c' ids&&oP c0 0 ids&&lQ ids U)=true→W9 ids (cg sh o') (TD vs) r→Hm ids (cg sh o') U o1→R r o1 ids.length→
  ∃n v h2 ρ' F' r o' c',fJ E base n g eE h=some (v,h2)∧R r o' c'∧Mem (yF base ρ F o0 c0 h S0) ρ' F' o' c' h2∧VR c' ρ' F' h2 r v:=by
  intro vs sh ids U r o1 hex yC hi hle hO hR;simp only[Bool.and_eq_true]at hi;obtain⟨xs,k1,k2⟩:=xm L M' S' yC;obtain⟨F1,S1⟩:=jE M' sh;have M2:=S1.mem.le hi.1.1 hi.1.2 hi.2 hO;refine⟨n0,cQ xs,h',_,F1,r,o1,ids.length,?_,hR,M2,pG S1.mem _ _ _ hle (S1.bk _ _ (P2 k2))⟩;unfold fJ gT;rw[hf];simp only[Option.bind_some,ho _ _ _ _ _ _ H Ms,hb,←Ms.1,hlen,bC];have ku:=hr n0 (Nat.le_refl _);have pA:a7 E base n0 code (AF.enter eE fn.ntmps) h=some (ex,vg,h'):=ku;rw[pA];rcases hex with rfl |rfl<;>simp[k1]
 cases ex with
 |exit id=>exact hq.elim
 |normal=>
  simp only at hq;split at hq
  ·rename_i vs yC;obtain⟨sh,ids,U,r,o1,⟨hle,hO,hi⟩,hR⟩:=hq;exact fin (.inl rfl) yC hi hle hO hR
  ·exact hq.elim
 |ret=>
  simp only at hq;split at hq
  ·rename_i vs yC;obtain⟨sh,ids,U,r,o1,⟨hle,hO,hi⟩,hR⟩:=hq;exact fin (.inr rfl) yC hi hle hO hR
  ·exact hq.elim
theorem VC.enter (L:ck T E) {g:FuncId} {fn:Func} {code:Code} {c0:Nat} {args:List TV} {o0:Ob} {R:TV→Ob→Nat→Prop} (hf:E.func g=some fn) (ho:∀b a,E.uZ b g a=fun _=>none) (hb:fn.body=some code) (hlen:Nat.ble args.length fn.ntmps=true)
 (dK:List Nat) (hw:wp T (VC E) fn.ntmps c0 dK code (r8 0 args) o0 c0 (LP T c0 fn.results.toList R)):VC E g c0 args o0 R:=
 VC.Uc L hf (fun _ _ _ _ _ _ _ _=>congrFun (ho _ _) _) hb hlen dK hw
theorem VC.mono {g:FuncId} {c0:Nat} {args:List TV} {o0:Ob} {R R':TV→Ob→Nat→Prop} (H:VC E g c0 args o0 R) (hR:∀r o c,R r o c→R' r o c):VC E g c0 args o0 R':=by
 intro base ρ F h S eE hN hM hO hA;obtain⟨n,v,h',ρ',F',r,o',c',h1,h2,h3⟩:=H base ρ F h S eE hN hM hO hA;exact⟨n,v,h',ρ',F',r,o',c',h1,hR _ _ _ h2,h3⟩
theorem VC.uZ {g:FuncId} {c0:Nat} {args:List TV} {o0:Ob} {v:Value} (hf:(E.func g).isSome=true) (ho:∀b a h,a.length=args.length→E.uZ b g a h=some (v,h)) (hp:ay v=true):VC E g c0 args o0 (fun r o c=>r= .s v∧o=o0∧c=c0):=by
 intro base ρ F h S eE hN hM hO hA;obtain⟨fn,hf⟩:=Option.isSome_iff_exists.1 hf;refine⟨0,v,h,ρ,F,.s v,o0,c0,?_,⟨rfl,rfl,rfl⟩,hM,.s hp⟩;unfold fJ gT;rw[hf];simp only[Option.bind_some,ho _ eE h hA.1.symm]
end
section
variable {E:Env}
def Mt (sub:TypeId→Option (List Nat)) (E:Env):List Field→Nat→Option (List Nat)
 |[],_=>some []
 |f::fs,off=>bC (f.name != "_"&&Nat.beq f.offset off)<|(sub f.type).bind fun ks=>(eN E f.type).bind fun s=>bC (Nat.beq s.2 ks.length)<|(Mt sub E fs (off+ks.length)).bind fun r=>some (ks++r)
def V8 (E:Env):Nat→TypeId→Option (List Nat)
 |0,_=>none
 |d+1,t=>(E.desc t).bind fun ds=>match ds with
  | .bool=>some [1]
  | .int k=>some [iN k]
  | .string=>some [2]
  | .struct fields=>bC (E.rF t) (Mt (V8 E d) E fields.toList 0)
  |_=>none
def lV:List Nat→List Value→List Value→Option Bool
 |[],[],[]=>some true
 |k::ks,v::l,w::m=>(match Nat.blt 0 k&&Nat.beq (aY v) k&&Nat.beq (aY w) k with
  |true=>(match lV ks l m with|some r=>some (I5 v w&&r)|none=>none)
  |false=>none)
 |_,_,_=>none
theorem Mu:∀{zs:List Value} {xs ys:List TV} {r:Bool},lO zs xs ys=some r→lV (zs.map aY) (xs.map TQ) (ys.map TQ)=some r
 |[],[],[],r,h=>by simpa[lO,lV]using h
 |[],[],_::_,r,h=>by simp[lO]at h
 |[],x::l,ys,r,h=>by simp[lO]at h
 |z::zs,[],ys,r,h=>by simp[lO]at h
 |z::zs,x::l,[],r,h=>by cases x<;>simp[lO]at h
 |z::zs,x::l,y::m,r,h=>by
  cases x<;>try(simp[lO]at h;done)
  rename_i v;cases y<;>try(simp[lO]at h;done)
  rename_i w;simp only[lO]at h;simp only[List.map_cons,lV];cases hc:(Nat.blt 0 (aY z)&&Nat.beq (aY v) (aY z)&&Nat.beq (aY w) (aY z))with
  |false=>rw[hc]at h;cases h
  |true=>
   rw[hc]at h;simp only at h;cases hq:lO zs l m with
   |none=>rw[hq]at h;cases h
   |some r'=>
    rw[hq]at h;have l4:(Nat.blt 0 (aY z)&&Nat.beq (aY (TQ (.s v))) (aY z)&&Nat.beq (aY (TQ (.s w))) (aY z))=true:=hc;rw[l4,Mu hq];exact h
theorem uP:∀{ks Sc:List Nat} {l l' m m':List Value},l.length=ks.length→m.length=ks.length→lV (ks++Sc) (l++l') (m++m')=(lV ks l m).bind fun a=>(lV Sc l' m').bind fun b=>some (a&&b)
 |[],Sc,[],l',[],m',_,_=>by simp[lV]
 |k::ks,Sc,v::l,l',w::m,m',h1,h2=>by
  simp only[List.cons_append,lV];rw[uP (by simpa using h1) (by simpa using h2)];split
  ·cases lV ks l m<;>cases lV Sc l' m'<;>simp[Bool.and_assoc]
  ·rfl
 |[],_,_::_,_,_,_,h1,_=>by simp at h1
 |[],_,[],_,_::_,_,_,h2=>by simp at h2
 |_::_,_,[],_,_,_,h1,_=>by simp at h1
 |_::_,_,_::_,_,[],_,_,h2=>by simp at h2
theorem xn:∀{ks:List Nat} {l m:List Value} {r:Bool},lV ks l m=some r→l.length=ks.length∧m.length=ks.length
 |[],[],[],r,_=>⟨rfl,rfl⟩
 |[],[],_::_,r,h=>by simp[lV]at h
 |[],_::_,_,r,h=>by simp[lV]at h
 |_::_,[],_,r,h=>by simp[lV]at h
 |_::_,_::_,[],r,h=>by simp[lV]at h
 |k::ks,v::l,w::m,r,h=>by
  simp only[lV]at h;split at h
  ·split at h
   ·rename_i hq;obtain⟨h1,h2⟩:=xn hq;exact⟨by simp[h1],by simp[h2]⟩
   ·cases h
  ·cases h
def Ud (agg:Bool) (l:List Value):Value:=match agg,l with
 |true,l=>.agg l.toArray
 |false,v::_=>v
 |false,[]=>undef
theorem Mv (k:IntKind):3≤iN k:=by cases k<;>simp[iN]
theorem DB {k k':IntKind} (h:iN k=iN k'):k=k':=by cases k<;>cases k'<;>simp[iN]at h<;>rfl
theorem Mw:∀(d:Nat) {t:TypeId} {ks:List Nat} {l m:List Value} {r:Bool},V8 E d t=some ks→lV ks l m=some r→∃ds,E.desc t=some ds∧
 (∀s,eN E t=some s→s.1=isAgg ds)∧u3 E d t (Ud (isAgg ds) l) (Ud (isAgg ds) m)=some r
 |0,t,ks,l,m,r,h,_=>by simp[V8]at h
 |d+1,t,ks,l,m,r,h,hv=>by
  unfold V8 at h;simp only[Option.bind_eq_some_iff]at h;obtain⟨ds,h1,h2⟩:=h;have hl:=xn hv;have Ue:∀{k:Nat},ks=[k]→isAgg ds=false→(∀v w:Value,aY v=k→aY w=k→u3 E (d+1) t v w=some (I5 v w))→∃ds,E.desc t=some ds∧(∀s,eN E t=some s→s.1=isAgg ds)∧u3 E (d+1) t (Ud (isAgg ds) l) (Ud (isAgg ds) m)=some r:=by
   rintro k rfl ha hq;refine⟨ds,h1,fun s hs=>?_,?_⟩
   ·unfold eN at hs;rw[h1]at hs;simp only[Option.bind_some,ha,cond_false,Option.some.injEq]at hs;subst hs;exact ha.symm
   ·rw[ha]
    match l,m,hl with
    |[v],[w],_=>
     simp only[lV]at hv;split at hv
     ·rename_i hc;simp only[Bool.and_eq_true,beq_iff]at hc;simp only[Bool.and_true]at hv;rw[←hv];exact hq v w hc.1.2 hc.2
     ·cases hv
  split at h2
  ·cases h2;refine Ue rfl rfl fun v w hk oK=>?_;cases v<;>simp[aY]at hk<;>try(rename_i i _;cases i<;>simp[iN]at hk;done)
   cases w<;>simp[aY]at oK<;>try(rename_i i _;cases i<;>simp[iN]at oK;done)
   simp[u3,h1,I5]
  ·rename_i k;cases h2;refine Ue rfl rfl fun v w hk oK=>?_;have hp:=Mv k;cases v<;>simp[aY]at hk<;>try omega
   cases w<;>simp[aY]at oK<;>try omega
   rw[DB hk,DB oK];simp[u3,h1,I5]
  ·cases h2;refine Ue rfl rfl fun v w hk oK=>?_;cases v<;>simp[aY]at hk<;>try(rename_i i _;cases i<;>simp[iN]at hk;done)
   cases w<;>simp[aY]at oK<;>try(rename_i i _;cases i<;>simp[iN]at oK;done)
   simp[u3,h1,I5]
  ·rename_i fields;rw[aj]at h2;obtain⟨he,hF⟩:=h2;refine⟨_,h1,fun s hs=>?_,?_⟩
   ·unfold eN at hs;rw[h1]at hs;simp only[Option.bind_some,isAgg,cond_true,Option.bind_eq_some_iff]at hs;obtain⟨n,_,h4⟩:=hs;cases h4;rfl
   ·have key:∀(fs:List Field) (off:Nat) (ks:List Nat) (l0 m0 l m:List Value) (r:Bool),Mt (V8 E d) E fs off=some ks→l0.length=off→m0.length=off→lV ks l m=some r→EP (ow E) (u3 E d) (l0++l) (m0++m) fs=some r:=by
     intro fs
     induction fs with
     |nil=>
      intro off ks l0 m0 l m r hc _ _ hv;simp[Mt]at hc;subst hc;cases l<;>cases m<;>simp[lV]at hv;simp[EP,hv]
     |cons f fs ih=>
      intro off ks l0 m0 l m r hc vo EW hv;simp only[Mt,aj,Bool.and_eq_true,beq_iff,Option.bind_eq_some_iff,Option.some.injEq]at hc;obtain⟨⟨hn,Uf⟩,k1,ql,s,hs,fG,k2,rB,rfl⟩:=hc;obtain⟨CH,EU⟩:=xn hv;rw[List.length_append]at CH EU;have el:l=l.take k1.length++l.drop k1.length:=(List.take_append_drop _ _).symm;have em:m=m.take k1.length++m.drop k1.length:=(List.take_append_drop _ _).symm;have tl:(l.take k1.length).length=k1.length:=by simp;omega
      have tm:(m.take k1.length).length=k1.length:=by simp;omega
      rw[el,em,uP tl tm]at hv;simp only[Option.bind_eq_some_iff,Option.some.injEq]at hv;obtain⟨r1,jJ,r2,pA,rfl⟩:=hv;obtain⟨ds',_,XY,TR⟩:=Mw d ql jJ;generalize isAgg ds'=agg at XY TR;have uE:=XY s hs;have part:∀(x0 x:List Value),x0.length=off→k1.length≤x.length→ow E f.type (x0++x) f.offset=some (Ud agg (x.take k1.length)):=by
       intro x0 x fT hx;unfold ow;rw[hs];simp only[Option.bind_some];rw[Uf,←fT,List.drop_left,fG];have ht:takeN k1.length x=some (x.take k1.length):=by rw[aU];exact⟨hx,rfl⟩
       rw[ht,uE];cases agg with
       |true=>rfl
       |false=>
        have:s.2=1:=by
         obtain⟨a,n⟩:=s;simp only at uE;subst uE;unfold eN at hs;simp only[Option.bind_eq_some_iff]at hs;obtain⟨dd,_,h5⟩:=hs;cases WZ:isAgg dd with
         |true=>
          rw[WZ]at h5;simp only[cond_true,Option.bind_eq_some_iff]at h5;obtain⟨_,_,h6⟩:=h5;cases h6
         |false=>rw[WZ]at h5;cases h5;rfl
        have hk:k1.length=1:=by omega
        rw[hk]at hx ⊢
        match x,hx with
        |v::x',_=>simp[cH,Ud]
      simp only[EP,aj];refine⟨hn,?_⟩;rw[part l0 l vo om,part m0 m EW om];simp only[Option.bind_some,TR];have:=ih (off+k1.length) k2 (l0++l.take k1.length) (m0++m.take k1.length) (l.drop k1.length) (m.drop k1.length) r2 rB (by rw[List.length_append,vo,tl]) (by rw[List.length_append,EW,tm]) pA;rw[List.append_assoc,List.append_assoc,←el,←em]at this;cases r1 with
      |true=>simp only[Bool.true_and];exact this
      |false=>rfl
    have:=key fields.toList 0 ks [] [] l m r hF rfl rfl hv;simp only[List.nil_append]at this;show u3 E (d+1) t (.agg l.toArray) (.agg m.toArray)=some r;unfold u3;rw[h1];simp only[Option.bind_some,aj];exact⟨he,this⟩
  ·cases h2
def tQ:List Nat→List Nat→Bool
 |[],[]=>true
 |a::l,b::m=>Nat.beq a b&&tQ l m
 |_,_=>false
theorem zP:∀{a b:List Nat},tQ a b=true→a=b
 |[],[],_=>rfl
 |[],_::_,h=>by simp[tQ]at h
 |_::_,[],h=>by simp[tQ]at h
 |x::a,y::b,h=>by
  simp only[tQ,Bool.and_eq_true,beq_iff]at h;rw[h.1,zP h.2]
def HU (E:Env) (t:TypeId):Bool:=E.rF t&&(match E.desc t,V8 E 100 t,E.zero t with
 |some d,some ks,some (.agg a)=>isAgg d&&tQ (a.toList.map aY) ks
 |_,_,_=>false)
theorem xo {n:Nat}:∀{l:List Nat},mr n l=true→n∈l
 |[],h=>by simp[mr]at h
 |m::l,h=>by
  unfold mr at h;split at h
  ·rename_i e;rw[beq_iff]at e;simp[e]
  ·exact List.mem_cons_of_mem _ (xo h)
def tES (E:Env) (l st:List Nat):Env:={E with rF:=fun t=>mr t l,still:=fun g=>mr g st}
def tE (E:Env) (l:List Nat):Env:=tES E l []
theorem Ug {l st:List Nat} (hz:∀t z,E.zero t=some z→ff z=true) (hl:l.all (HU E)=true) (ct:∀g,mr g st=true→FD E g):ck (tES E l st) E:=by
 refine⟨fun _ _ h=>h,fun _ _ h=>h,fun _ _ h=>h,fun t z h=>⟨h,hz t z h⟩,fun t a b z xs ys r he hzt hr ha hb=>?_,fun _ _ h=>h,ct⟩;have aN:=List.all_eq_true.1 hl t (xo he);unfold HU at aN;simp only[Bool.and_eq_true]at aN;obtain⟨h1,h2⟩:=aN;refine⟨h1,?_⟩;have aa5:E.zero t=some z:=hzt;split at h2
 ·rename_i dd ks a0 hd hk Cp;simp only[Bool.and_eq_true]at h2;rw[aa5,Option.some.injEq]at Cp;subst Cp;have zk:=zP h2.2;have hv:=Mu hr;simp only[Value.cells]at hv;rw[zk,←ha,←hb]at hv;obtain⟨ds,dk,_,TR⟩:=Mw 100 hk hv;rw[hd]at dk;cases dk;rw[h2.1]at TR;simpa[Ud]using TR
 ·cases h2
theorem Sd {l:List Nat} (hz:∀t z,E.zero t=some z→ff z=true) (hl:l.all (HU E)=true):ck (tE E l) E:=Ug hz hl fun g h=>by simp[mr]at h
end
def ints (l:List Int):List (List TV):=l.map fun n=>[.s (.int .i64 n)]
inductive Sh where
 |bool
 |int (k:IntKind)
 |str
 |sl (e:List Sh)
mutual
def Fit:Sh→TV→Prop
 | .bool,t=>∃b,t= .s (.bool b)
 | .int k,t=>∃n,k.min≤n∧n≤k.max∧t= .s (.int k n)
 | .str,t=>∃s:ByteArray,s.size≤maxLen∧t= .s (.string s)
 | .sl e,t=>∃es:List (List TV),es.length≤maxLen∧(∀r∈es,Fits e r)∧t= .sl e.length es false
def Fits:List Sh→List TV→Prop
 |[],l=>l=[]
 |s::ss,l=>∃t r,l=t::r∧Fit s t∧Fits ss r
end
theorem Fit.fz {s:Sh} {t:TV} (h:Fit s t):M.fz t=true:=by
 cases s with
 |bool=>simp only[Fit]at h;obtain⟨b,rfl⟩:=h;rfl
 |int k=>simp only[Fit]at h;obtain⟨n,_,_,rfl⟩:=h;rfl
 |str=>simp only[Fit]at h;obtain⟨n,_,rfl⟩:=h;rfl
 |sl e=>simp only[Fit]at h;obtain⟨es,_,_,rfl⟩:=h;rfl
theorem Fits.fz:∀{ss:List Sh} {l:List TV},Fits ss l→∀t∈l,M.fz t=true
 |[],l,h,t,ht=>by simp only[Fits]at h;subst h;cases ht
 |s::ss,l,h,t,ht=>by
  simp only[Fits]at h;obtain⟨t0,r,rfl,h1,h2⟩:=h;rcases List.mem_cons.1 ht with rfl |ht
  ·exact h1.fz
  ·exact Fits.fz h2 t ht
theorem Fits.length:∀{ss:List Sh} {l:List TV},Fits ss l→l.length=ss.length
 |[],l,h=>by simp only[Fits]at h;subst h;rfl
 |s::ss,l,h=>by
  simp only[Fits]at h;obtain⟨t0,r,rfl,h1,h2⟩:=h;simp[Fits.length h2]
theorem Fits.append:∀{ss Mx:List Sh} {l l':List TV},Fits ss l→Fits Mx l'→Fits (ss++Mx) (l++l')
 |[],Mx,l,l',h,h'=>by simp only[Fits]at h;subst h;exact h'
 |s::ss,Mx,l,l',h,h'=>by
  simp only[Fits]at h;obtain⟨t0,r,rfl,h1,h2⟩:=h;simp only[List.cons_append,Fits];exact⟨_,_,rfl,h1,Fits.append h2 h'⟩
def su (P:Program) (f:TypeId→List Sh→Bool):List Field→Nat→List Sh→Bool
 |[],_,ss=>ss.isEmpty
 |x::xs,o,ss=>Nat.beq x.offset o&&Nat.ble (P.cellsOf x.type) ss.length&&f x.type (ss.take (P.cellsOf x.type))&&su P f xs (o+P.cellsOf x.type) (ss.drop (P.cellsOf x.type))
def My (f:List Sh→Bool) (z:Nat):Nat→List Sh→Bool
 |0,ss=>ss.isEmpty
 |n+1,ss=>Nat.ble z ss.length&&f (ss.take z)&&My f z n (ss.drop z)
def Pd (P:Program):Nat→TypeId→List Sh→Bool
 |0,_,_=>false
 |n+1,t,ss=>match P.underlying t with
  |some .bool=>(match ss with|[.bool]=>true|_=>false)
  |some (.int k)=>(match ss with|[.int k']=>decide (k'=k)|_=>false)
  |some .string=>(match ss with|[.str]=>true|_=>false)
  |some (.slice e)=>(match ss with|[.sl es]=>Nat.beq (P.cellsOf e) es.length&&Nat.blt 0 es.length&&Pd P n e es|_=>false)
  |some (.struct fs)=>Nat.beq (P.cellsOf t) ss.length&&su P (Pd P n) fs.toList 0 ss
  |some (.array m e)=>Nat.beq (P.cellsOf t) ss.length&&My (Pd P n e) (P.cellsOf e) m ss
  |_=>false
structure AR (W:World) (μ:bn) (h:ab):Prop where
 high:∀b,h.size≤b→h.get b=none
 all:∀b,b<h.size→∃cs,h.get b=some (.cells cs b (b+1) 0)
 gg:∀b m,μ b=some m→b<h.size
 obj:∀b m,μ b=some m→∃cs c e fr,h.get b=some (.cells cs b (b+1) 0)∧W.heap[m.r]? =some (.cells c e fr)∧c.size=m.n∧m.s+cs.length≤m.n∧
  ∀(i:Nat) v,cs[i]? =some v→∃v',c[m.s+i]? =some v'∧aq μ v v'
def Grown (h h':ab):Prop:=h.size≤h'.size∧∀b,b<h.size→h'.get b=h.get b
theorem Grown.refl (h:ab):Grown h h:=⟨Nat.le_refl _,fun _ _=>rfl⟩
theorem Grown.trans {a b c:ab} (h:Grown a b) (k:Grown b c):Grown a c:=⟨Nat.le_trans h.1 k.1,fun x hx=>by rw[k.2 x (Nat.lt_of_lt_of_le hx h.1),h.2 x hx]⟩
theorem AR.rd {W:World} {μ:bn} {h:ab} (_:AR W μ h) {b:Nat} {cs:List Value} (hg:h.get b=some (.cells cs b (b+1) 0)):h.rd b=some cs:=
 dO (bH hg hg) (Nat.zero_le _) (by unfold ab.cellsOf;rw[hg])
theorem AR.Mz {W:World} {μ aS:bn} {h h':ab} (H:AR W μ h) (H':AR W aS h') (g:Grown h h') {b:Nat} {cs:List Value} (hb:b<h.size) (hr:h.rd b=some cs):h'.rd b=some cs:=by
 obtain⟨HM,hg⟩:=H.all b hb;have e:=H.rd hg;rw[hr]at e;cases e;exact H'.rd (by rw[g.2 b hb,hg])
theorem AR.vE {W:World} {μ aS:bn} {h h':ab} (H:AR W μ h) (H':AR W aS h') (g:Grown h h') {t:TV} {v:Value} (hv:VR 0 tB (· <h.size) h t v):VR 0 tB (· <h'.size) h' t v:=
 hv.mono (Nat.le_refl _) (fun _ _ _ hx=>hx) (fun _ _ hx=>hx) (fun _ hb=>Nat.lt_of_lt_of_le hb g.1) fun _ _ hb hr=>H.Mz H' g hb hr
def Laid (W:World) (ss:List Sh) (cs:List Value):Prop:=∀μ h,AR W μ h→∃aS h' zQ vs,AR W aS h'∧μ.le aS∧Grown h h'∧Fits ss zQ∧dH 0 tB (· <h'.size) h' zQ vs∧ax aS vs cs
theorem Laid.nil (W:World):Laid W [] []:=fun μ h H=>⟨μ,h,[],[],H,μ.le_refl,.refl h,by simp[Fits],.nil,.nil⟩
theorem Laid.append {W:World} {ss Mx:List Sh} {cs cs':List Value} (h1:Laid W ss cs) (h2:Laid W Mx cs'):Laid W (ss++Mx) (cs++cs'):=by
 intro μ h H;obtain⟨fK,k1,t1,v1,H1,l1,g1,f1,r1,x1⟩:=h1 μ h H;obtain⟨uq,k2,t2,v2,H2,l2,g2,f2,r2,x2⟩:=h2 fK k1 H1;exact⟨uq,k2,t1++t2,v1++v2,H2,bn.le_trans l1 l2,g1.trans g2,f1.append f2,(r1.qh fun _ _ hv=>H1.vE H2 g2 hv).append r2,(x1.mono l2).append x2⟩
theorem Laid.scalar {W:World} {s:Sh} {v:Value} (hp:ay v=true) (hf:Fit s (.s v)):Laid W [s] [v]:=fun μ h H=>
 ⟨μ,h,[.s v],[v],H,μ.le_refl,.refl h,by simp only[Fits];exact⟨_,_,rfl,hf,rfl⟩,.cons (.s hp) .nil,.cons (.lit hp) .nil⟩
theorem Laid.rows {W:World} {e:List Sh}:∀{rows:List (List Value)},(∀r∈rows,Laid W e r)→∀μ h,AR W μ h→∃(aS:bn) (h':ab) (es:List (List TV)) (vs:List Value),AR W aS h'∧μ.le aS∧Grown h h'∧es.length=rows.length∧(∀r∈es,Fits e r)∧
 dH 0 tB (· <h'.size) h' es.flatten vs∧ax aS vs rows.flatten
 |[],_,μ,h,H=>⟨μ,h,[],[],H,μ.le_refl,.refl h,rfl,by simp,.nil,.nil⟩
 |r::rows,hr,μ,h,H=>by
  obtain⟨fK,k1,t1,v1,H1,l1,g1,f1,r1,x1⟩:=hr r List.mem_cons_self μ h H;obtain⟨uq,k2,es,v2,H2,l2,g2,n2,f2,r2,x2⟩:=Laid.rows (rows:=rows) (fun r' h'=>hr r' (List.mem_cons_of_mem _ h')) fK k1 H1;refine⟨uq,k2,t1::es,v1++v2,H2,bn.le_trans l1 l2,g1.trans g2,by simp[n2],?_,?_,?_⟩
  ·intro r' ku;rcases List.mem_cons.1 ku with rfl |ku
   ·exact f1
   ·exact f2 r' ku
  ·rw[List.flatten_cons];exact(r1.qh fun _ _ hv=>H1.vE H2 g2 hv).append r2
  ·rw[List.flatten_cons];exact(x1.mono l2).append x2
theorem xp {α:Type} {z:Nat}:∀{es:List (List α)},(∀e∈es,e.length=z)→∀(i j:Nat) e t,es[i]? =some e→e[j]? =some t→es.flatten[i*z+j]? =some t
 |[],_,i,j,e,t,h,_=>by simp at h
 |e0::es,hz,i,j,e,t,h,k=>by
  rw[List.flatten_cons];have h0:=hz e0 List.mem_cons_self;cases i with
  |zero=>
   simp at h;subst h;have:j<e0.length:=(List.getElem?_eq_some_iff.1 k).1;rw[Nat.zero_mul,Nat.zero_add,List.getElem?_append_left this,k]
  |succ i=>
   rw[List.getElem?_append_right (by rw[h0,Nat.succ_mul];omega),h0,show(i+1)*z+j - z=i*z+j by rw[Nat.succ_mul];omega];exact xp (fun e' h'=>hz e' (List.mem_cons_of_mem _ h')) i j e t (by simpa using h) k
theorem DC {α:Type} {z:Nat}:∀{es:List (List α)},(∀e∈es,e.length=z)→es.flatten.length=es.length*z
 |[],_=>by simp
 |e0::es,hz=>by
  rw[List.flatten_cons,List.length_append,DC (fun e' h'=>hz e' (List.mem_cons_of_mem _ h')),hz e0 List.mem_cons_self,List.length_cons,Nat.succ_mul];omega
theorem AR.push {W:World} {μ:bn} {h:ab} (H:AR W μ h) {vs cs:List Value} (hv:ax μ vs cs) {r s:Nat} {c:Array Value} {e:TypeId} {fr:Nat×Nat} (hr:W.heap[r]? =some (.cells c e fr))
 (hle:s+cs.length≤c.size) (hc:∀(i:Nat) v,cs[i]? =some v→c[s+i]? =some v):
 AR W (fun b=>if b=h.size then some ⟨r,s,c.size⟩else μ b) (h.push (.cells vs h.size (h.size+1) 0))∧μ.le (fun b=>if b=h.size then some ⟨r,s,c.size⟩else μ b):=by
 have Uh:μ.le (fun b=>if b=h.size then some ⟨r,s,c.size⟩else μ b):=fun b m hb=>by
  have:=H.gg b m hb;show(if b=h.size then _ else _)=_;rw[if_neg om,hb]
 refine⟨⟨fun b hb=>?_,fun b hb=>?_,fun b m hb=>?_,fun b m hb=>?_⟩,Uh⟩
 ·rw[ab.size_push]at hb;rw[ab.ao,if_neg om];exact H.high b om
 ·rw[ab.size_push]at hb;rw[ab.ao];by_cases e:b=h.size
  ·rw[if_pos e,e];exact⟨_,rfl⟩
  ·rw[if_neg e];exact H.all b om
 ·rw[ab.size_push];by_cases e:b=h.size
  ·omega
  ·rw[if_neg e]at hb;have:=H.gg b m hb;omega
 ·by_cases e:b=h.size
  ·rw[if_pos e]at hb;cases hb;refine⟨vs,c,_,_,by rw[ab.ao,if_pos e,e],hr,rfl,by rw[hv.length];exact hle,fun i v hi=>?_⟩;obtain⟨v',h1,h2⟩:=hv.get hi;exact⟨v',hc i v' h1,h2.mono Uh⟩
  ·rw[if_neg e]at hb;obtain⟨HM,c0,e0,Uj,q1,q2,q3,q4,q5⟩:=H.obj b m hb;exact⟨HM,c0,e0,Uj,by rw[ab.ao,if_neg e];exact q1,q2,q3,q4,fun i v hi=>let⟨v',h1,h2⟩:=q5 i v hi;⟨v',h1,h2.mono Uh⟩⟩
theorem AR.dummy {W:World} {μ:bn} {h:ab} (H:AR W μ h):AR W μ (h.push (.cells [] h.size (h.size+1) 0)):=by
 refine⟨fun b hb=>?_,fun b hb=>?_,fun b m hb=>?_,fun b m hb=>?_⟩
 ·rw[ab.size_push]at hb;rw[ab.ao,if_neg om];exact H.high b om
 ·rw[ab.size_push]at hb;rw[ab.ao];by_cases e:b=h.size
  ·rw[if_pos e,e];exact⟨_,rfl⟩
  ·rw[if_neg e];exact H.all b om
 ·rw[ab.size_push];have:=H.gg b m hb;omega
 ·have:=H.gg b m hb;obtain⟨HM,c0,e0,Uj,q1,q2,q3,q4,q5⟩:=H.obj b m hb;exact⟨HM,c0,e0,Uj,by rw[ab.ao,if_neg om];exact q1,q2,q3,q4,q5⟩
theorem qU {h:ab} (o:e8):Grown h (h.push o):=⟨by rw[ab.size_push];omega,fun b hb=>by rw[ab.ao,if_neg om]⟩
theorem Laid.slice {W:World} {e:List Sh} (he:0<e.length) {a:Addr} {len cap:Nat} (IL:len≤cap) (gD:cap≤maxLen) {base:Nat}
 (aN:∀i,i<cap→∃r,W.cells? base (a.add (i*e.length)) e.length=some r∧(i<len→Laid W e r)):Laid W [.sl e] [.slice (some a) len cap]:=by
 intro μ h H;by_cases h0:cap=0
 ·subst h0;have:len=0:=by omega
  subst this;have H':=H.dummy;refine⟨μ,_,[.sl e.length [] false],[.slice (some ⟨h.size,0,some e.length⟩) 0 0],H',μ.le_refl,qU _,?_,.cons ?_ .nil,.cons (.cS fun h=>absurd rfl h) .nil⟩
  ·simp only[Fits,Fit];exact⟨_,_,rfl,⟨[],by simp,by simp,rfl⟩,rfl⟩
  ·refine .sl (b:=h.size) (o:=0) (cs:=[]) (by rw[ab.size_push];omega) ?_ he rfl (Nat.le_refl _) (fun _=>rfl) (by simp) (by simp) (by simp) (by simp);exact H'.rd (by rw[ab.ao,if_pos rfl])
 ·-- the row
  have Lf:∀i,i<cap→∀j,j<e.length→∃r,W.cells? base (a.add (i*e.length)) e.length=some r∧r.length=e.length∧W.cell? ((a.add (i*e.length)).add j)=r[j]? :=by
   intro i hi j hj;obtain⟨r,hr,_⟩:=aN i hi;obtain⟨_,h2,h3⟩:=World.cells?_some hr;exact⟨r,hr,h2,h3 j hj⟩
  have aa6:∀k j,((a.add k).add j).block=a.block:=by intro k j;unfold Addr.add;split<;>split<;>rfl
  have Uf:∀k j,((a.add k).add j).off=a.off+k+j:=by
   intro k j;unfold Addr.add;split<;>split<;>(try simp only[])<;>omega
  have VT:((a.add (0*e.length)).add 0)=a:=by rw[Nat.zero_mul];rfl
  obtain⟨c,ty,fr,hW,MA⟩:∃c ty fr,W.heap[a.block]? =some (.cells c ty fr)∧a.spot=none:=by
   obtain⟨r,hr,h2,h3⟩:=Lf 0 om 0 he;rw[VT]at h3;have:r[0]? =some r[0]:=List.getElem?_eq_getElem om;rw[this]at h3;unfold World.cell? at h3;split at h3
   ·rename_i c ty fr hc;split at h3
    ·cases h3
    ·rename_i hs;exact⟨c,ty,fr,hc,by simpa using hs⟩
   ·cases h3
  have Uk:∀k j,((a.add k).add j).spot=none:=by
   intro k j;unfold Addr.add;split<;>split<;>simp[MA]
  have eH:∀i,i<cap→∀r,W.cells? base (a.add (i*e.length)) e.length=some r→r.length=e.length∧∀(j:Nat) v,r[j]? =some v→c[a.off+i*e.length+j]? =some v:=by
   intro i hi r hr;obtain⟨_,h2,h3⟩:=World.cells?_some hr;refine⟨h2,fun j v hv=>?_⟩;have hj:j<e.length:=by rw[←h2];exact(List.getElem?_eq_some_iff.1 hv).1
   have:=h3 j hj;unfold World.cell? at this;rw[aa6,hW,Uk,Uf,hv]at this;simpa using this
  have G6:a.off+cap*e.length≤c.size:=by
   obtain⟨r,hr,_⟩:=aN (cap - 1) om;obtain⟨h2,h3⟩:=eH _ om r hr;have h4:=h3 (e.length - 1) r[e.length - 1] (List.getElem?_eq_getElem om);have h5:=(Array.getElem?_eq_some_iff.1 h4).1;have:cap*e.length=(cap - 1)*e.length+e.length:=by rw[←Nat.succ_mul];congr 1;omega
   omega
  -- the elements
  let rows:=(List.range len).map fun i=>(W.cells? base (a.add (i*e.length)) e.length).getD []
  have MB:∀i,i<len→rows[i]? =W.cells? base (a.add (i*e.length)) e.length:=by
   intro i hi;obtain⟨r,hr,_⟩:=aN i om;simp only[rows,List.getElem?_map,List.getElem?_range hi,Option.map_some,hr,Option.getD_some]
  have hlen:rows.length=len:=by simp[rows]
  have hz:∀r∈rows,r.length=e.length:=by
   intro r hr;obtain⟨i,hi,rfl⟩:=List.mem_iff_getElem.1 hr;have yI:i<len:=by omega
   obtain⟨r',ku,_⟩:=aN i om;have:=MB i yI;rw[ku,List.getElem?_eq_getElem hi]at this;cases this;exact(eH i om _ ku).1
  have hL:∀r∈rows,Laid W e r:=by
   intro r hr;obtain⟨i,hi,rfl⟩:=List.mem_iff_getElem.1 hr;have yI:i<len:=by omega
   obtain⟨r',ku,hl⟩:=aN i om;have:=MB i yI;rw[ku,List.getElem?_eq_getElem hi]at this;cases this;exact hl yI
  obtain⟨fK,k1,es,vs,H1,l1,g1,n1,f1,r1,x1⟩:=Laid.rows hL μ h H;have qA:=DC hz;have qa:∀(i:Nat) v,rows.flatten[i]? =some v→c[a.off+i]? =some v:=by
   intro i v hv;have hi:=(List.getElem?_eq_some_iff.1 hv).1;rw[qA,hlen]at hi;have hq:i / e.length<len:=(Nat.div_lt_iff_lt_mul he).2 hi;have hm:i % e.length<e.length:=Nat.mod_lt _ he;have hdm:i / e.length*e.length+i % e.length=i:=by rw[Nat.mul_comm];exact Nat.div_add_mod _ _
   obtain⟨r',ku,_⟩:=aN (i / e.length) om;have h1:=MB _ hq;rw[ku]at h1;obtain⟨q1,q2⟩:=eH _ om r' ku;have h2:r'[i % e.length]? =some r'[i % e.length]:=List.getElem?_eq_getElem om;have h3:=xp hz _ _ _ _ h1 h2;rw[hdm,hv]at h3;cases h3;have:=q2 _ _ h2;rw[show a.off+i / e.length*e.length+i % e.length=a.off+i by omega]at this;exact this
  have hle:a.off+rows.flatten.length≤c.size:=by
   rw[qA,hlen];have:=Nat.mul_le_mul_right e.length IL;omega
  obtain⟨H2,l2⟩:=H1.push x1 hW hle qa;have m6:∀r∈es,r.length=e.length:=fun r hr=>(f1 r hr).length;refine⟨_,_,[.sl e.length es false],[.slice (some ⟨k1.size,0,some e.length⟩) len cap],H2,bn.le_trans l1 l2,g1.trans (qU _),?_,.cons ?_ .nil,.cons ?_ .nil⟩
  ·simp only[Fits,Fit];exact⟨_,_,rfl,⟨es,om,f1,rfl⟩,rfl⟩
  ·have Ry:vs.length=len*e.length:=by rw[x1.length,qA,hlen]
   refine .sl (b:=k1.size) (o:=0) (cs:=vs) (by rw[ab.size_push];omega) ?_ he om IL (fun h=>by cases h) om m6 (fun r hr t ht=>(f1 r hr).fz t ht) ?_
   ·exact H2.rd (by rw[ab.ao,if_pos rfl])
   ·intro i j e' t v q1 q2 q3;have q4:=xp m6 i j e' t q1 q2;rw[Nat.zero_add]at q3;exact H1.vE H2 (qU _) (r1.2 _ _ _ q4 q3)
  ·have:aq (fun b=>if b=k1.size then some (⟨a.block,a.off,c.size⟩:MT)else fK b) (.slice (some ⟨k1.size,0,some e.length⟩) len cap) (.slice (some ⟨a.block,a.off+0,none⟩) len cap):=
    .slice (m:=⟨a.block,a.off,c.size⟩) (by simp) IL IL (fun h=>h) (by simpa using G6)
   have ha:(⟨a.block,a.off+0,none⟩:Addr)=a:=by
    cases a;simp only[]at MA;subst MA;rfl
   rw[ha]at this;exact this
end Go.M
