/-
  Part 25 of the library that the proof leans on.
-/
import Derived.Test.YtjklkjjfnipcnaaGreatDoorL24
import Derived.RecoverIn
import Derived.Test.YtjklkjjfnipcnaaGreatDoorL22
noncomputable section
namespace Go.M
open Go
section
variable {P:Program} {E:Env} {base B:Nat} {D:FuncId→Option Nat}
theorem Ge {o:Oper} (h:isRec o=true) (ρ:Operand→Value) (w:World):o.guard=none∧(execOp ρ o).run P w= .ok .recover w:=by
 unfold isRec at h;simp only[Bool.and_eq_true,Option.isNone_iff_eq_none]at h;obtain⟨h1,h2⟩:=h;refine⟨h1,?_⟩;split at h2
 ·rename_i c e7;simp only[Bool.and_eq_true]at h2;obtain⟨h3,h4⟩:=h2;have h5:c.args= #[]:=by simpa using h3
  split at h4
  ·rename_i bL;unfold execOp;rw[e7];simp only[resolve,bL,h5];rfl
  ·cases h4
 ·cases h2
inductive Mode:FrameMode→Value→FrameMode→Prop
 |ret:Mode .returning .nilIface .returning
 |gC (v:Value):Mode (.panicking [{v:=v,recovered:=false}]) v (.panicking [{v:=v,recovered:=true}])
theorem Mode.Rk {u u':FrameMode} {v:Value} (m:Mode u v u') {c:Frame} {cs:List Frame} (hc:c.mode=u):
 (recoverD (c::cs)=some (v,{c with mode:=u'}::cs))∨(recoverD (c::cs)=none∧v= .nilIface∧{c with mode:=u'}=c):=by
 cases m with
 |ret=>exact .inr ⟨by simp[recoverD,hc],rfl,by rw[←hc]⟩
 |gC v=>exact .inl (by simp[recoverD,hc])
theorem Mode.settle {u u':FrameMode} {v:Value} (m:Mode u v u'):Go.settle u'= .returning:=by
 cases m<;>rfl
theorem BO (hE:aU P E) {run:nq} (hk:kj P E base B run) {g:FuncId} {args:List Value} {args':Array Value} {pv:Value} {Mb:Value} {h h':ab} (hr:jt E run g args pv h=some h') {μ:aS} {w:World} (hv:ao μ args args'.toList) (hp:ak μ pv Mb) (H:aM E base B μ h w)
 {u u':FrameMode} (BP:Mode u Mb u') {F:Fence} (hF:c4 F) (iI:F.round=none) (n:Nat):CallsDIn F n P g args' u w fun e u1 w'=>∃v az,e= .returned v∧u1=u'∧Step E base B μ h w az h' w':=by
 unfold jt at hr;simp only[Option.bind_eq_some_iff]at hr;obtain⟨fn,h1,hr⟩:=hr;obtain⟨f1,f2,f3⟩:=hE.func _ _ h1;split at hr
 ·rename_i id ops y hb;split at hr
  ·rename_i o Gf;simp only[ae,Bool.and_eq_true,ax]at hr;obtain⟨⟨⟨⟨Uu,Ad⟩,kr⟩,hn⟩,hr⟩:=hr;have Rl:fn.results.toList=[]:=by simpa using kr
   have go:∀(e:Ex) (fe:AF),run y ((AF.enter args fn.ntmps).put o.dst pv) h=some (.go e,fe,h')→(fC e= .normal∨fC e= .ret)→CallsDIn F n P g args' u w fun e u1 w'=>∃v az,e= .returned v∧u1=u'∧Step E base B μ h w az h' w':=by
    intro e fe bH hex;refine callsDIn_of_wpSIn f1 hb (hF.fn _) fun K6 cs Rm=>?_;obtain⟨UN,Uv⟩:=Ge (P:=P) Uu ({tmps:=args'++Array.replicate (fn.ntmps - args'.size) undef,defers:=[]}:Act).eval w;have Fw:ops[0]? =some o:=by
     have:ops.toList[0]? =some o:=by rw[Gf];rfl
     simpa using this
    have cI:ops.size=1:=by rw[←Array.length_toList,Gf];rfl
    refine wpSIn_seq (wpSIn_region ?_);rw[cI];have iy:Region.wanted o (yielded ops (args'++Array.replicate (fn.ntmps - args'.size) undef))=true:=by unfold Region.wanted;rw[UN]
    have rest:y.wpSIn F n P (bodyPostS P fn K6 cs fun e u1 w'=>∃v az,e= .returned v∧u1=u'∧Step E base B μ h w az h' w') (({tmps:=args'++Array.replicate (fn.ntmps - args'.size) undef,defers:=[]}:Act).put o.dst Mb) ({K6 with mode:=u'}::cs) w:=by
     refine wpSIn_of_wpIn iI ?_;have Gy:(({tmps:=args'++Array.replicate (fn.ntmps - args'.size) undef,defers:=[]}:Act).put o.dst Mb).defers=[]:=by cases o.dst<;>rfl
     have key:=hk y _ h _ fe h' bH μ (({tmps:=args'++Array.replicate (fn.ntmps - args'.size) undef,defers:=[]}:Act).put o.dst Mb) w w.heap.size [] ((jm hv hn).put hp o.dst) H (by rw[Gy];exact .refl) (Nat.le_refl _) F n hF (.inl iI);refine wpIn_mono key ?_;rintro x a1 w1 ⟨rfl,b6,q1,q2,q3,q4⟩;have yI:a1.defers=[]:=(q3 Ad).trans Gy;obtain⟨v',p1,p2⟩:=iw (P:=P) (fn:=fn) hE q1 q4.rel (vs:=[]) (by rw[Rl];rfl)
     have fin:a1.defers=[]∧∃u1,({K6 with mode:=u'}:Frame)::cs={K6 with mode:=u1}::cs∧∃v,(results fn a1.tmps).run P w1= .ok v w1∧∃v2 az,Ending.returned v= .returned v2∧u1=u'∧Step E base B μ h w az h' w1:=
      ⟨yI,u',rfl,v',p1,v',b6,rfl,rfl,q4⟩
     rcases hex with e|e<;>rw[e]<;>exact fin
    have e0:List.range 1=[0]:=rfl;rw[e0];simp only[wpOpsSIn,Fw,iy,if_true,Uv];refine⟨fun _ _=>hF.fn _,?_⟩;rcases BP.Rk Rm (cs:=cs)with hx|⟨hx,rfl,jG⟩
    ·rw[hx];exact rest
    ·rw[hx];rw[jG]at rest;exact rest
   split at hr
   ·rename_i fe h2 bH;simp only[Option.some.injEq]at hr;subst hr;exact go _ _ bH (.inl rfl)
   ·rename_i fe h2 bH;simp only[Option.some.injEq]at hr;subst hr;exact go _ _ bH (.inr rfl)
   ·cases hr
  ·cases hr
 ·cases hr
theorem vT (hE:aU P E) {run:nq} (hk:kj P E base B run) {g:FuncId} {args:List Value} {cap' Dn:Array Value} {pv Mb:Value} {h h':ab} (hr:jt E run g args pv h=some h') {μ eo:aS} {h0:ab} {w w0:World} (hv:ao μ args (Dn++cap').toList) (hp:ak μ pv Mb) (s0:Step E base B eo h0 w0 μ h w)
 {u u':FrameMode} (BP:Mode u Mb u') {F:Fence} (hF:c4 F) (iI:F.round=none) {n:Nat} {fn:Func} {f:AF} {tmps:Array Value} (hf:bw μ f tmps) {vs:List Value} (kr:bx E h' f fn.results.toList=some vs):
 LeavesInM F n P fn tmps (lW E base B eo h0 w0 (.val (aZ vs) h')) [{target:=.fn (.func g) cap',args:=Dn}] u w:=by
 have oP:(E.func g).isSome=true:=by
  unfold jt at hr;simp only[Option.bind_eq_some_iff]at hr;obtain⟨fn,h1,_⟩:=hr;simp[h1]
 obtain⟨G0,Ci⟩:=Option.isSome_iff_exists.1 oP;obtain⟨g1,g2,g3⟩:=hE.func _ _ Ci;have Mz:G0.body.isNone=false:=by cases hx:G0.body<;>simp_all
 have aX:u≠ .run:=by cases BP<;>simp
 refine⟨aX,.inr ⟨hF.ok n,.func g,cap',g,Dn++cap',rfl,?_,fun _ _=>hF.fn _,?_⟩⟩
 ·simp only[invoke,callFunc,Sem.run_bind,run_program,Result.andThen_ok,g1,g3,Mz,Bool.false_eq_true,if_false,Sem.run_pure]
 ·refine CallsDIn.mono (BO hE hk hr hv hp s0.rel BP hF iI (n - 1)) ?_;rintro e u1 w1 ⟨v,b6,rfl,rfl,s1⟩;show LeavesInM F n P fn tmps _ [] (settle u1) w1;rw[BP.settle];obtain⟨v',p1,p2⟩:=iw (P:=P) hE (hf.mono s1.le) s1.rel kr;exact⟨v',p1,v',b6,rfl,p2,s0.trans s1⟩
theorem Jq (hE:aU P E) (_:P.follows .mixedOrders=true) {run:nq} (hk:kj P E base B run) {cz:eB} {rz:c9} (vO:fB P E base B cz) (x4:gu P E base B rz) (j6:fu E cz) (j7:eY rz) {fn:Func} {F:Fence} (hF:c4 F) (iI:F.round=none) {n:Nat} {r:Rs} {eo:aS} {h0:ab} {w0:World}:
 ∀(k:Nat) (c:Code) (f:AF) (h:ab),vS E base run cz rz fn k c f h=some r→∀(μ:aS) (a:Act) (w:World),bw μ f a.tmps→a.defers=[]→Step E base B eo h0 w0 μ h w→c.wpIn F n P (bodyPostM F n P fn (lW E base B eo h0 w0 r)) a w:=by
 intro k
 induction k with
 |succ k ih=>
  intro c f h hr μ a w hf hd s0;cases c<;>simp only[vS]at hr<;>first|cases hr|skip
  rename_i x y;simp only[ae]at hr;obtain⟨Ad,hr⟩:=hr;split at hr
  ·rename_i f1 h1 hx;have kx:=hk x f h _ f1 h1 hx μ a w w.heap.size [] hf s0.rel (by rw[hd];exact .refl) (Nat.le_refl _) F n hF (.inl iI);refine wpIn_seq (wpIn_mono kx ?_);rintro q a1 w1 ⟨rfl,b6,q1,_,q3,s1⟩;exact ih y f1 h1 hr b6 a1 w1 q1 ((q3 Ad).trans hd) (s0.trans s1)
  ·cases hr
 |zero=>
  intro c f h hr μ a w hf hd s0;unfold vS at hr;split at hr;rotate_left
  ·exfalso;omega
  ·cases hr
  rename_i f h _ _ _ _ id ops Xz da z _;split at hr;rotate_left
  ·cases hr
  rename_i o0 o1 Gf;split at hr;rotate_left
  ·cases hr
  rename_i c Kl;simp only[ae,Bool.and_eq_true,Option.isNone_iff_eq_none]at hr;obtain⟨⟨⟨PG,iY⟩,gH⟩,hr⟩:=hr;have N9:c.args= #[]:=by simpa using gH
  split at hr;rotate_left
  ·cases hr
  rename_i g bL;split at hr;rotate_left
  ·cases hr
  rename_i q Fw;split at hr;rotate_left
  ·cases hr
  rename_i gid first captured jk
  have XA:ops[0]? =some o0:=by
   have:ops.toList[0]? =some o0:=by rw[Gf];rfl
   simpa using this
  have XB:ops[1]? =some o1:=by
   have:ops.toList[1]? =some o1:=by rw[Gf];rfl
   simpa using this
  have cI:ops.size=2:=by rw[←Array.length_toList,Gf];rfl
  have XC:∀t,Region.wanted o0 (yielded ops t)=true:=fun t=>by unfold Region.wanted;rw[PG]
  have RL:∀t,Region.wanted o1 (yielded ops t)=true:=fun t=>by unfold Region.wanted;rw[iY]
  refine wpIn_seq (wpIn_region ?_);rw[cI,show List.range 2=[0,1]from rfl];simp only[wpOpsIn,XA,XB,XC,RL,if_true];refine Cg hE vO.cf x4.rf j6.cf j7.rf hF hf s0.rel (lX Fw) fun b6 v' w1 q1 s1=>?_;have LD:bw b6 (f.put o0.dst q.v) (a.put o0.dst v').tmps:=(hf.mono s1.le).put q1 o0.dst;have pj:=aL s1.rel.cd LD jk;have wV:(a.put o0.dst v').defers=[]:=by rw[←hd];cases o0.dst<;>rfl
  generalize hq:(a.put o0.dst v').eval g=gv at pj;cases pj with
  |lit hh=>simp[ar]at hh
  |func t1 t2 t3 t4=>
   rename_i dP bF;refine⟨fun _ _=>hF.fn _,?_⟩;have Uw:(o1.semAt F.round (a.put o0.dst v').eval).run P w1= .ok (.defer {target:=.fn (.func gid) bF,args:=dP}) w1:=by
    rw[iI,Oper.semAt_none];unfold execOp;rw[Kl];simp[resolve,bL,N9,hq,Deferred.ofValue]
   rw[Uw,Oper.uponIn_defer]
   -- behind it
   have hv:ao b6 (first.toList++captured.toList) (dP++bF).toList:=by
    have v1:=ao.gL t1 t2;have v3:=ao.gL t3 t4;simpa using v1.append v3
   generalize RY:(({a.put o0.dst v' with defers:={target:=.fn (.func gid) bF,args:=dP}::(a.put o0.dst v').defers}:Act).put o1.dst undef)=a2;have MQ:bw b6 ((f.put o0.dst q.v).put o1.dst undef) a2.tmps:=by
    have:=LD.put (.undef b6) o1.dst;rw[←RY];cases hx:o1.dst<;>(rw[hx]at this;exact this)
   have zI:a2.defers=[{target:=.fn (.func gid) bF,args:=dP}]:=by
    rw[←RY];have:(({a.put o0.dst v' with defers:={target:=.fn (.func gid) bF,args:=dP}::(a.put o0.dst v').defers}:Act).put o1.dst undef).defers={target:=.fn (.func gid) bF,args:=dP}::(a.put o0.dst v').defers:=by cases o1.dst<;>rfl
    rw[this,wV]
   have Ux:=s0.trans s1;unfold L7 at hr;show(Code.seq (.region Xz da false) z).wpIn F n P _ a2 w1;refine wpIn_seq (wpIn_region ?_);rw[List.range_eq_range',←Array.length_toList];split at hr
   ·rename_i v f2 h2 bH;simp only[Option.bind_eq_some_iff,Option.some.injEq]at hr;obtain⟨h3,yI,vs,kr,rfl⟩:=hr;refine nu hE vO x4 j6 j7 hF da.toList 0 b6 _ q.h a2 w1 (fun j=>by simp) bH MQ s1.rel fun od v2 a3 w3 p0 p1 p2 s2=>?_;show LeavesInM F n P fn a3.tmps _ a3.defers _ w3;rw[p2,zI];exact vT hE hk yI (hv.mono s2.le) p1 (Ux.trans s2) (.gC v2) hF iI p0 kr
   ·rename_i f2 h2 bH;split at hr;rotate_left
    ·cases hr
    rename_i f3 h3 hz;simp only[Option.bind_eq_some_iff,Option.some.injEq]at hr;obtain⟨h4,yI,vs,kr,rfl⟩:=hr;refine nu hE vO x4 j6 j7 hF da.toList 0 b6 _ q.h a2 w1 (fun j=>by simp) bH MQ s1.rel fun _ od a3 w3 p0 p2 s2=>?_;show z.wpIn F n P _ a3 w3;have kz:=hk z f2 h2 _ f3 h3 hz od a3 w3 w0.heap.size [{target:=.fn (.func gid) bF,args:=dP}] p0 s2.rel (by rw[p2,zI];exact .refl) (Nat.le_trans Ux.grow.size s2.grow.size) F n hF (.inl iI);refine wpIn_mono kz ?_;rintro x a4 w4 ⟨rfl,Yn,k1,⟨ms,rs,fI,Dy⟩,_,s4⟩;show LeavesInM F n P fn a4.tmps _ a4.defers .returning w4;rw[fI]
    refine km (by simp) ms rs w4 Dy ((Ux.trans s2).trans s4) fun w5 s5=>?_;exact vT hE hk yI (hv.mono (aS.le_trans s2.le s4.le)) (.lit rfl) s5 .ret hF iI k1 kr
   ·cases hr
theorem BQ (hE:aU P E) (hO:eZ P E base B) (hm:P.follows .mixedOrders=true) {run:nq} (hk:kj P E base B run):fB P E base B (lZ E D base run):=by
 intro μ h w g args args' r hc hr H F n hF;unfold lZ at hc;split at hc
 ·exact BN hE hO hk μ h w g args args' r hc hr H F n hF
 ·simp only[Option.bind_eq_some_iff,ae,ax]at hc;obtain⟨fn,h1,c,h2,hn,hc⟩:=hc;obtain⟨f1,f2,f3⟩:=hE.func _ _ h1
  have fin:CallsIn F.plain n P g args' w (lW E base B μ h w r):=
   callsIn_of_wp_marks f1 h2 (hF.fn _) (Jq hE hm hk (BN hE hO hk) (x9 hk) (BL _) (x8 _) hF.plain rfl _ c _ h hc μ _ w (jm hr hn) rfl (.refl H)) rfl
  exact fin
theorem Jr (hE:aU P E) (hO:eZ P E base B) (hm:P.follows .mixedOrders=true) (n:Nat):fB P E base B (L8 E D base n):=
 BQ hE hO hm (Jp hE hm (fun _ hk=>BQ hE hO hm hk) n).1
end
def rT:Option Rs→Bool
 |some (.val (.bool true) _)=>true
 |_=>false
theorem vU {x:Option Rs} (h:rT x=true):∃h',x=some (.val (.bool true) h'):=by
 unfold rT at h;split at h
 ·exact⟨_,rfl⟩
 ·cases h
section
variable {P:Program} {l:kX}
theorem Js {n:Nat} {mn:FuncId→List Value→ab→Option (Value×ab)} {D:FuncId→Option Nat} (hm:P.follows .mixedOrders=true) (hB:oB l n=true) (hO:∀base B,eZ P (iV P l mn) base B) {k:Nat} {g:FuncId}
 (hr:rT (L8 (iV P l mn) D n k g [] (ql l n))=true):C5 P l g:=by
 intro W F j hW hF;obtain⟨h',hr⟩:=vU hr;have A:=Vi hB hW;have H:aM (iV P l mn) n W.heap.size (NC l n W) (ql l n) W:=by
  have:=A.LY (E:=iV P l mn) (aS.le_refl _) (Bi hB hW rfl)
  rwa [dT]at this
 have:=Jr (D:=D) (vw P l _) (hO n W.heap.size) hm k (NC l n W) (ql l n) W g [] #[] _ hr .nil H F j hF;refine this.mono ?_;rintro e W' ⟨v',az,rfl,hv,S⟩;have e:=hv.an rfl;subst e;refine⟨rfl,S.grow.os,S.grow.tape,S.grow.output,S.grow.size,fun k hk=>S.grow.bf k hk fun b mt hb _=>?_⟩;have:=A.dZ b mt hb
 rwa [dT]at this
end
end Go.M
end
