/-
  Part 17 of the library that the proof leans on.
-/
import Derived.Test.YtpkdpgcpmeibpaaGreatDoorL12
import Derived.Test.YtpkdpgcpmeibpaaGreatDoorL15
import Derived.Test.YtpkdpgcpmeibpaaGreatDoorL16
import Derived.Test.YtpkdpgcpmeibpaaGreatDoorL13
namespace Go.M
open Go Go.Proofs
set_option maxRecDepth 100000
set_option maxHeartbeats 2000000
structure aE where
 me:Int
 ae:Int
 st:Int
 b:Int
 al:Int
 bQ:Int
 aV:List (Int×List ak)
 dT:List (Int×cA×Nat)
def c6 (l:List ak):TV:=.sl 6 (l.map eZ) false
def zO (p:cA×Nat):TV:=.agg [.s (.int .i64 p.1.kind),.s (.int .i64 p.1.chain),.s (.int .u64 p.1.aq),.s (.int .i64 p.1.node),.s (.int .u64 p.2)]
@[reducible] def kT (x:aE) (i j:Nat):TO:=.cells [.s (.int .i64 x.me),.s (.int .i64 x.ae),.s (.int .i64 x.st),.s (.int .u64 x.b),.s (.int .i64 x.al),.s (.int .i64 x.bQ),.mp i,.mp j]
@[reducible] def iQ (x:aE):TO:=.map (eE .i64) (x.aV.map (kL .i64 c6))
@[reducible] def kB (x:aE):TO:=.map (eE .i64) (x.dT.map (kL .i64 zO))
@[reducible] def rA (x:aE):Ob:=[(0,kT x 1 2),(1,iQ x),(2,kB x)]
@[reducible] def kU (me ae:Int):TO:=.cells [.s (.int .i64 me),.s (.int .i64 ae),.s (.int .i64 0),.s (.int .u64 0),.s (.int .i64 0),.s (.int .i64 0),.s (.map none),.s (.map none)]
theorem S6 (me ae:Int) (h1:m5 ae) (h2:1≤me∧me≤ae):VC E0 16 0 [.s (.int .i64 me),.s (.int .i64 ae)] [] (RR (.dk [.ptr 0 0,.s (.int .i64 0)]) 1 [(0,kU me ae)]):=by
 unfold m5 at h1;refine en L0 Tryz.f16 ?_;refine sp ?_ ?_<;>intro a1
 ·have a1:ae<1:=a1;omega
 ·refine wh ?_;refine sp ?_ ?_<;>intro a2
  ·have a2:ae>5:=a2;omega
  ·refine wh ?_;refine sp ?_ ?_<;>intro a3
   ·have a3:me<1:=a3;omega
   ·refine wh ?_;refine sp ?_ ?_<;>intro a4
    ·have a4:me>ae:=a4;omega
    ·refine wh ?_;exact⟨[],[some 0],_,_,_,t3,rfl,rfl,rfl⟩
theorem PI (x:aE) (s b:Int):VC E0 98 3 [.ptr 0 0,.s (.int .i64 s),.s (.int .u64 b)] (rA x) (RR (.s (.bool (decide (x.st=s∧x.b=b)))) 3 (rA x)):=by
 refine en L0 Tryz.f98 ?_;refine sp ?_ ?_<;>intro h1
 ·have h1:x.st=s:=h1;refine wh ?_;refine sp ?_ ?_<;>intro h2
  ·have h2:x.b=b:=h2;refine wh ?_;refine⟨[],[some 0,some 1,some 2],_,_,_,tx ?_,rfl,rfl,rfl⟩;exact Lz.of (ah (Eq.symm (decide_eq_true ⟨h1,h2⟩)))
  ·have h2:¬x.b=b:=h2;refine wh ?_;refine⟨[],[some 0,some 1,some 2],_,_,_,tx ?_,rfl,rfl,rfl⟩;exact Lz.of (ah (Eq.symm (decide_eq_false fun h=>h2 h.2)))
 ·have h1:¬x.st=s:=h1;refine wh ?_;refine⟨[],[some 0,some 1,some 2],_,_,_,tx ?_,rfl,rfl,rfl⟩;exact Lz.of (ah (Eq.symm (decide_eq_false fun h=>h1 h.1)))
theorem PJ (x:aE) (aM:Int):VC E0 99 3 [.ptr 0 0,.s (.int .i64 aM)] (rA x) (RR (.s (.bool (decide (1≤aM∧aM≤x.ae)))) 3 (rA x)):=by
 refine en L0 Tryz.f99 ?_;refine sp ?_ ?_<;>intro h1
 ·have h1:aM≥1:=h1;refine wh ?_;refine sp ?_ ?_<;>intro h2
  ·have h2:aM≤x.ae:=h2;refine wh ?_;refine⟨[],[some 0,some 1,some 2],_,_,_,tx ?_,rfl,rfl,rfl⟩;exact Lz.of (ah (Eq.symm (decide_eq_true ⟨h1,h2⟩)))
  ·have h2:¬aM≤x.ae:=h2;refine wh ?_;refine⟨[],[some 0,some 1,some 2],_,_,_,tx ?_,rfl,rfl,rfl⟩;exact Lz.of (ah (Eq.symm (decide_eq_false fun h=>h2 h.2)))
 ·have h1:¬aM≥1:=h1;refine wh ?_;refine⟨[],[some 0,some 1,some 2],_,_,_,tx ?_,rfl,rfl,rfl⟩;exact Lz.of (ah (Eq.symm (decide_eq_false fun h=>h1 h.1)))
def iu (x:aE) (c:cA):aE:={x with dT:=ib x.dT x.bQ (c,0),bQ:=x.bQ+1}
theorem DY (x:aE) (c:cA) (h: -1000000≤x.bQ∧x.bQ≤1000000):VC E0 144 3 [.ptr 0 0,Ky c] (rA x) (RR (.s (.int .i64 x.bQ)) 3 (rA (iu x c))):=by
 refine en L0 Tryz.f144 ?_;refine⟨[],[some 0,some 1,some 2],?_⟩
 iterate 3 constructor
 refine⟨⟨?_,?_,?_⟩,rfl,rfl,rfl⟩
 all_goals(repeat' first|exact LF|constructor)
 ·exact Lz.int (IntWalk.i64_in _ om)
 ·exact Lz.of (qA .i64 zO x.bQ (c,0) x.dT)
def aH:cA:=⟨0,0,0,0⟩
def kV (x:aE) (n:Int):ak:=.of n x.b ((bL x.dT n).getD (aH,0)).1
theorem uy (x:aE) (n:Int):VC E0 102 3 [.ptr 0 0,.s (.int .i64 n)] (rA x) (RR (.agg (eZ (kV x n))) 3 (rA x)):=by
 refine en L0 Tryz.f102 ?_;have hl:=m3 .i64 .i64 zO n x.dT;have hv:kV x n= .of n x.b ((bL x.dT n).getD (aH,0)).1:=rfl;cases h:bL x.dT n with
 |none=>
  rw[h]at hl hv;refine⟨_,hl,?_⟩;refine wh ?_;rw[hv];exact⟨[],[some 0,some 1,some 2],_,_,_,t3,rfl,rfl,rfl⟩
 |some p=>
  rw[h]at hl hv;refine⟨_,hl,?_⟩;refine wh ?_;rw[hv];exact⟨[],[some 0,some 1,some 2],_,_,_,t3,rfl,rfl,rfl⟩
theorem Mf (vs:List ak) (hl:vs.length<1000000):VC E0 133 0 [c6 vs] [] (RR (.tk 0) 1 [(0,.arr 6 true (vs.map eZ))]):=by
 refine en L0 Tryz.f133 ?_;refine⟨fun h=>?_,?_⟩
 ·have h:vs=[]:=by simpa using h
  subst h;refine wh ?_;exact⟨[],[none],_,_,_,t3,rfl,rfl,rfl⟩
 ·refine wh ?_;refine⟨by simp;omega,?_⟩;refine wh ?_;exact⟨[],[some 1],_,_,_,t3,rfl,rfl,rfl⟩
def sU (al:Int) (v:ak):Bool:=decide (v.slot<al∨v.slot≥512)
def sV (al:Int) (vs:List ak):List ak:=vs.filter fun v=> !(sU al v)
@[reducible] def stC (x:aE):Ob:=[(0,.cells [.ptr 1 0]),(1,kT x 2 3),(2,iQ x),(3,kB x)]
@[reducible] def stD (x:aE) (vs:List ak):Ob:=[(0,.arr 6 true (vs.map eZ)),(1,.cells [.ptr 2 0]),(2,kT x 3 4),(3,iQ x),(4,kB x)]
theorem PK (x:aE) (v:ak):VC E0 134 4 [.agg (eZ v),.ptr 0 0] (stC x) (RR (.s (.bool (sU x.al v))) 4 (stC x)):=by
 refine en L0 Tryz.f134 ?_;refine sp ?_ ?_<;>intro h1
 ·have h1:v.slot<x.al:=h1;refine wh ?_;refine⟨[],[some 0,some 1,some 2,some 3],_,_,_,tx ?_,rfl,rfl,rfl⟩;exact Lz.of (ah (Eq.symm (decide_eq_true (.inl h1))))
 ·have h1:¬v.slot<x.al:=h1;refine wh ?_;refine sp ?_ ?_<;>intro h2
  ·have h2:v.slot≥512:=h2;refine wh ?_;refine⟨[],[some 0,some 1,some 2,some 3],_,_,_,tx ?_,rfl,rfl,rfl⟩;exact Lz.of (ah (Eq.symm (decide_eq_true (.inr h2))))
  ·have h2:¬v.slot≥512:=h2;refine wh ?_;refine⟨[],[some 0,some 1,some 2,some 3],_,_,_,tx ?_,rfl,rfl,rfl⟩;exact Lz.of (ah (Eq.symm (decide_eq_false fun h=>h.elim h1 h2)))
theorem S7 (x:aE) (vs:List ak) (hl:vs.length<1000000):VC E0 183 5 [.tk 0,.dc 134 [] [.ptr 1 0]] (stD x vs)
 (fun r o c=>∃i:Int,r= .s (.int .i64 i)∧c=5∧o=stD x vs∧((i= -1∧∀v∈vs,sU x.al v=false)∨∃j:Nat,∃h:j<vs.length,i=j∧(∀v∈vs.take j,sU x.al v=false)∧sU x.al vs[j]=true)):=by
 refine en L0 Tryz.f183 ?_;refine⟨fun k f o c=>∃j:Nat,j≤vs.length∧k=vs.length - j∧(∀v∈vs.take j,sU x.al v=false)∧c=5∧f=[(0,.tk 0),(1,.dc 134 [] [.ptr 1 0]),(7,.s (.int .i64 vs.length)),(8,.s (.int .i64 j))]∧o=stD x vs,⟨vs.length,?_⟩,?_⟩
 ·refine⟨[],[some 0,some 1,some 2,some 3,some 4],?_⟩
  iterate 3 constructor
  refine⟨⟨?_,?_,?_⟩,⟨0,Nat.zero_le _,rfl,by simp,rfl,rfl,rfl⟩⟩
  all_goals(repeat' first|exact LF|constructor)
  all_goals exact Lz.of (by simp[goInt])
 ·rintro k f1 o1 c1 ⟨j,hj,rfl,hb,rfl,rfl,rfl⟩;refine wh ?_;refine sp ?_ ?_<;>intro h
  ·have h:j<vs.length:=by simpa using h
   refine wh ?_;refine⟨⟨om,by simp;omega⟩,eZ vs[j],by simp[h],?_⟩;refine wh ?_;refine⟨[],[some 1,some 2,some 3,some 4],_,_,_,_,PK x vs[j],t3,?_⟩;rintro r o' c' ⟨rfl,rfl,rfl⟩;have bm:=True.intro;clear bm;cases hv:sU x.al vs[j]
   ·refine wh ?_;refine⟨vs.length - (j+1),?_,om⟩;exact⟨[],[some 0,some 1,some 2,some 3,some 4],_,_,_,t3,⟨j+1,h,rfl,by intro v pD;rw[List.take_succ_eq_append_getElem h]at pD;rcases List.mem_append.1 pD with h1|h1;exact hb v h1;simp at h1;subst h1;exact hv,rfl,rfl,rfl⟩⟩
   ·refine wh ?_;exact⟨[],[some 0,some 1,some 2,some 3,some 4],_,_,_,t3,(j:Int),rfl,rfl,rfl,.inr ⟨j,h,rfl,hb,hv⟩⟩
  ·have h':j=vs.length:=by have:¬j<vs.length:=by simpa using h
                           omega
   subst h';rw[List.take_length]at hb;refine wh ?_;exact⟨[],[some 0,some 1,some 2,some 3,some 4],_,_,_,t3,-1,rfl,rfl,rfl,.inl ⟨rfl,hb⟩⟩
theorem Gx {al:Int} {vs:List ak} (h:∀v∈vs,sU al v=false):sV al vs=vs:=by
 unfold sV;rw[List.filter_eq_self];intro v hv;rw[h v hv];rfl
theorem vX (al:Int) (vs:List ak) (j:Nat) (h:j<vs.length):sV al (vs.take (j+1))=sV al (vs.take j)++(if sU al vs[j]=true then []else [vs[j]]):=by
 unfold sV;rw[List.take_succ_eq_append_getElem h,List.filter_append]
 congr 1
 by_cases hb:sU al vs[j]=true<;>simp[hb]
theorem S8 (x:aE) (vs:List ak) (hl:vs.length<1000000):VC E0 132 5 [.tk 0,.dc 134 [] [.ptr 1 0]] (stD x vs)
 (RR (c6 (sV x.al vs)) 5 [(1,.cells [.ptr 2 0]),(2,kT x 3 4),(3,iQ x),(4,kB x)]):=by
 refine en L0 Tryz.f132 ?_;refine⟨[],[some 0,some 1,some 2,some 3,some 4],_,_,_,_,S7 x vs hl,t3,?_⟩;rintro r o' c' ⟨i0,rfl,rfl,rfl,Uy⟩;refine wh ?_;refine sp ?_ ?_<;>intro hm
 ·have hm:i0= -1:=hm;rcases Uy with⟨_,cC⟩|⟨j,h,e,_,_⟩
  ·refine wh ?_;refine⟨[0],[some 0,some 1,some 2,some 3,some 4],?_⟩
   iterate 3 constructor
   refine⟨⟨?_,?_,?_⟩,rfl,rfl,rfl⟩
   all_goals(repeat' first|exact LF|constructor)
   rw[Gx cC];exact Lz.rfl
  ·omega
 ·have hm:¬i0= -1:=hm;rcases Uy with⟨e,_⟩|⟨j0,h0,rfl,we,V4⟩
  ·exact absurd e hm
  refine wh ?_;refine⟨fun k f o c=>∃(i j:Nat) (ws:List ak),i<j∧j≤vs.length∧k=vs.length - j∧ws.length=vs.length∧ws.take i=sV x.al (vs.take j)∧ws.drop j=vs.drop j∧c=5∧f=[(0,.tk 0),(1,.dc 134 [] [.ptr 1 0]),(5,.s (.int .i64 i)),(6,.s (.int .i64 j))]∧o=stD x ws,⟨vs.length - (j0+1),?_⟩,?_⟩
  ·exact⟨[],[some 0,some 1,some 2,some 3,some 4],_,_,_,t3,⟨j0,j0+1,vs,om,h0,rfl,rfl,(by rw[vX _ _ _ h0,if_pos V4,List.append_nil];exact(Gx we).symm),rfl,rfl,rfl,rfl⟩⟩
  ·rintro k f1 o1 c1 ⟨i,j,ws,YU,hj,rfl,hlen,uU,hdr,rfl,rfl,rfl⟩;refine wh ?_;refine sp ?_ ?_<;>intro h
   ·have h:j<vs.length:=by rw[List.length_map,hlen]at h;omega
    have hw:ws[j]? =some vs[j]:=by
     have:=congrArg (fun l=>l[0]?) hdr;simpa[h]using this
    have PL:ws.drop (j+1)=vs.drop (j+1):=by
     have:=congrArg (List.drop 1) hdr;simpa[List.drop_drop,Nat.add_comm]using this
    refine wh ?_;refine⟨⟨om,by simp;omega⟩,eZ vs[j],by simp[hw],?_⟩;refine wh ?_;refine⟨[],[some 1,some 2,some 3,some 4],_,_,_,_,PK x vs[j],t3,?_⟩;rintro r o' c' ⟨rfl,rfl,rfl⟩;have bm:=True.intro;clear bm;cases hv:sU x.al vs[j]
    ·refine wh ?_;refine⟨⟨om,by simp;omega⟩,eZ (ws[i]' om),by simp[show i<ws.length by omega],?_⟩;refine wh ?_;refine⟨vs.length - (j+1),?_,om⟩;refine⟨[],[some 0,some 1,some 2,some 3,some 4],?_⟩
     iterate 3 constructor
     refine⟨⟨?_,?_,?_⟩,⟨i+1,j+1,ws.set i vs[j],om,h,rfl,by simpa using hlen,(by rw[vX _ _ _ h,if_neg (by simp[hv]),List.take_succ_eq_append_getElem (by simp;omega),List.take_set_of_le (Nat.le_refl _),uU];simp),(by rw[List.drop_set_of_lt om];exact PL),rfl,rfl,rfl⟩⟩
     all_goals(repeat' first|exact LF|constructor)
     refine Lz.of ?_;rw[List.map_set];rfl
    ·refine wh ?_;refine⟨vs.length - (j+1),?_,om⟩;exact⟨[],[some 0,some 1,some 2,some 3,some 4],_,_,_,t3,⟨i,j+1,ws,om,h,rfl,hlen,(by rw[vX _ _ _ h,if_pos hv,List.append_nil];exact uU),PL,rfl,rfl,rfl⟩⟩
   ·have h':j=vs.length:=by have:¬(j:Int)<(((ws.map eZ).length:Nat):Int):=h
                            rw[List.length_map,hlen]at this;omega
    subst h';rw[List.take_length]at uU;refine wh ?_;refine⟨⟨om,by simp;try omega,by simp⟩,.inr ?_⟩;refine wh ?_;refine⟨fun hc=>absurd hc (by simp;omega),fun _=>?_⟩;refine wh ?_;refine⟨⟨om,by simp;try omega,by simp;try omega⟩,.inl ?_⟩;refine wh ?_;refine⟨[],[some 0,some 1,some 2,some 3,some 4],?_⟩
    iterate 3 constructor
    refine⟨⟨?_,?_,?_⟩,rfl,rfl,rfl⟩
    all_goals(repeat' first|exact LF|constructor)
    refine Lz.of ?_;rw[←uU];simp[show i≤ws.length by omega]
theorem PM (es:List (Value×TV)):VC E0 107 1 [.mp 0] [(0,.map (eE .i64) es)] (fun r o c=>r= .dc 146 [] [.ptr 1 0]∧c=2∧o=[(1,.cells [.mp 0]),(0,.map (eE .i64) es)]):=by
 refine en L0 Tryz.f107 ?_;exact⟨[],[some 0,some 1],_,_,_,t3,rfl,rfl,rfl⟩
theorem zP (es:List (Value×TV)):VC E0 136 1 [.mp 0] [(0,.map (eE .i64) es)] (fun r o c=>r= .dc 185 [] [.ptr 1 0]∧c=2∧o=[(1,.cells [.mp 0]),(0,.map (eE .i64) es)]):=by
 refine en L0 Tryz.f136 ?_;exact⟨[],[some 0,some 1],_,_,_,t3,rfl,rfl,rfl⟩
theorem Cf:(E0.func 106).isSome=true:=by kernel_rfl
theorem zQ {α:Type} (f:α→TV) (k:Nat) (hk:jx k [248,146,185]=true) (es:List (Int×α)) (fG:lW (aQ es)):
 VC E0 106 2 [.dc k [] [.ptr 1 0]] [(0,.map (eE .i64) (es.map (kL .i64 f))),(1,.cells [.mp 0])] (fun r o c=>r= .tk 2∧c=3∧
  o=[(2,.arr 1 true ((cb (aQ es)).map aR)),(0,.map (eE .i64) (es.map (kL .i64 f))),(1,.cells [.mp 0])]):=
 VC.Ks (E:=E0) (g:=106) (lp:=[248,146,185]) (k:=k) Cf (fun _ _=>rfl) hk (y:=.map (eE .i64) (es.map (kL .i64 f))) (ks:=aQ es) (by show(es.map (kL .i64 f)).map (·.1)=_;exact Kz _ _ _) fG
def bc (x:aE):List ak:=(cb (aQ x.dT)).map (kV x)
theorem uz (x:aE) (fG:lW (aQ x.dT)) (hlen:x.dT.length<1000000):VC E0 56 3 [.ptr 0 0] (rA x) (RR (c6 (bc x)) 3 (rA x)):=by
 refine en L0 Tryz.f56 ?_;refine⟨[],[some 2],_,_,_,_,PM _,t3,cw ?_⟩;refine⟨[],[some 2,some 4],_,_,_,_,zQ zO _ rfl x.dT fG,t3,cw ?_⟩;have hv:bc x=(cb (aQ x.dT)).map (kV x):=rfl;have vd:(cb (aQ x.dT)).length<1000000:=by rw[iN];simpa using hlen
 generalize xH:cb (aQ x.dT)=ks at*
 refine⟨fun k f o c=>∃i:Nat,i≤ks.length∧k=ks.length - i∧c=5∧f=[(0,.ptr 0 0),(3,.tk 3),(13,.tk 4),(14,.s (.int .i64 ks.length)),(15,.s (.int .i64 i))]∧o=[(0,kT x 1 2),(1,iQ x),(2,kB x),(3,.arr 6 true (((ks.take i).map (kV x)).map eZ)),(4,.arr 1 true (ks.map aR))],⟨ks.length,?_⟩,?_⟩
 ·refine⟨[],[some 0,some 1,some 2,none,some 7],?_⟩
  iterate 3 constructor
  refine⟨⟨?_,?_,?_⟩,⟨0,Nat.zero_le _,rfl,rfl,rfl,rfl⟩⟩
  all_goals(repeat' first|exact LF|constructor)
  all_goals exact Lz.of (by simp[goInt])
 ·rintro k f1 o1 c1 ⟨i,hi,rfl,rfl,rfl,rfl⟩;refine wh ?_;refine sp ?_ ?_<;>intro h
  ·have h:i<ks.length:=by simpa using h
   refine wh ?_;refine⟨⟨om,by simp;omega⟩,aR ks[i],by simp[h],?_⟩;refine wh ?_;refine⟨[],[some 0,some 1,some 2],_,_,_,_,uy x ks[i],t3,cw ?_⟩;refine⟨by simp;omega,?_⟩;refine wh ?_;refine⟨ks.length - (i+1),?_,om⟩;refine⟨[],[some 0,some 1,some 2,some 9,some 4],?_⟩
   iterate 3 constructor
   refine⟨⟨?_,?_,?_⟩,⟨i+1,h,rfl,rfl,rfl,rfl⟩⟩
   all_goals(repeat' first|exact LF|constructor)
   refine Lz.of ?_;rw[List.take_succ_eq_append_getElem h,List.map_append,List.map_append];rfl
  ·have h':i=ks.length:=by have:¬i<ks.length:=by simpa using h
                           omega
   subst h';rw[List.take_length,←hv];refine wh ?_;exact⟨[3],[some 0,some 1,some 2],_,_,_,t3,rfl,rfl,rfl⟩
def eV (x:aE):List (List ak):=(cb (aQ x.aV)).map fun w=>(bL x.aV w).getD []
theorem WH (x:aE) (fG:lW (aQ x.aV)) (hlen:x.aV.length<1000000):VC E0 187 3 [.ptr 0 0] (rA x) (RR (.sl 1 ((eV x).map Gu) false) 3 (rA x)):=by
 refine en L0 Tryz.f187 ?_;refine⟨[],[some 1],_,_,_,_,zP _,t3,cw ?_⟩;refine⟨[],[some 1,some 4],_,_,_,_,zQ c6 _ rfl x.aV fG,t3,cw ?_⟩;have hv:eV x=(cb (aQ x.aV)).map fun w=>(bL x.aV w).getD []:=rfl;have fL:∀w∈cb (aQ x.aV),w∈aQ x.aV:=fun w hw=>dI.1 hw;have vd:(cb (aQ x.aV)).length<1000000:=by rw[iN];simpa using hlen
 generalize xH:cb (aQ x.aV)=ks at*
 refine⟨fun k f o c=>∃i:Nat,i≤ks.length∧k=ks.length - i∧c=5∧f=[(0,.ptr 0 0),(3,.tk 3),(11,.tk 4),(12,.s (.int .i64 ks.length)),(13,.s (.int .i64 i))]∧o=[(0,kT x 1 2),(1,iQ x),(2,kB x),(3,.arr 1 true (((ks.take i).map fun w=>(bL x.aV w).getD []).map Gu)),(4,.arr 1 true (ks.map aR))],⟨ks.length,?_⟩,?_⟩
 ·refine⟨[],[some 0,some 1,some 2,none,some 7],?_⟩
  iterate 3 constructor
  refine⟨⟨?_,?_,?_⟩,⟨0,Nat.zero_le _,rfl,rfl,rfl,rfl⟩⟩
  all_goals(repeat' first|exact LF|constructor)
  all_goals exact Lz.of (by simp[goInt])
 ·rintro k f1 o1 c1 ⟨i,hi,rfl,rfl,rfl,rfl⟩;refine wh ?_;refine sp ?_ ?_<;>intro h
  ·have h:i<ks.length:=by simpa using h
   refine wh ?_;refine⟨⟨om,by simp;omega⟩,aR ks[i],by simp[h],?_⟩;refine wh ?_;have nS:=m3 .i64 .i64 c6 ks[i] x.aV;have wo:((ks.take (i+1)).map fun w=>(bL x.aV w).getD []).map Gu=((ks.take i).map fun w=>(bL x.aV w).getD []).map Gu++[Gu ((bL x.aV ks[i]).getD [])]:=by
    rw[List.take_succ_eq_append_getElem h,List.map_append,List.map_append];rfl
   cases hc:bL x.aV ks[i]with
   |none=>exact absurd (fL _ (List.getElem_mem h)) (o9.1 hc)
   |some vs=>
    rw[hc]at nS wo;refine⟨_,nS,?_⟩;refine wh ?_;refine⟨by simp;omega,?_⟩;refine wh ?_;refine⟨ks.length - (i+1),?_,om⟩;refine⟨[],[some 0,some 1,some 2,some 6,some 4],?_⟩
    iterate 3 constructor
    refine⟨⟨?_,?_,?_⟩,⟨i+1,h,rfl,rfl,rfl,rfl⟩⟩
    all_goals(repeat' first|exact LF|constructor)
    refine Lz.of ?_;rw[wo];rfl
  ·have h':i=ks.length:=by have:¬i<ks.length:=by simpa using h
                           omega
   subst h';rw[List.take_length,←hv];refine wh ?_;exact⟨[3],[some 0,some 1,some 2],_,_,_,t3,rfl,rfl,rfl⟩
set_option maxHeartbeats 4000000
def ao (v:ak):cA:=⟨v.kind,v.chain,v.aq,v.node⟩
def iY (x:aE):Nat→aE
 |0=>x
 |m+1=>iu (iY x m) aH
theorem l9 (x:aE):∀m,(iY x m).bQ=x.bQ+m
 |0=>by simp[iY]
 |m+1=>by simp[iY,iu,l9 x m];omega
def dh (x:aE) (s:Int):aE:=iY x (s - x.bQ).toNat
def dD (x:aE) (l:List ak):aE:=l.foldl (fun x v=>iu (dh x v.slot) (ao v)) x
theorem I5 (x:aE) (l:List ak) (v:ak):dD x (l++[v])=iu (dh (dD x l) v.slot) (ao v):=by simp[dD]
theorem I6 {es:List (Int×ak)} (h:KB es) {v:ak} {e:Int×ak} (he:e∈gJ es v):e.2=v∨e∈es:=by
 unfold gJ at he;split at he
 ·rcases(ir h.mv.nd).1 he with rfl |⟨_,h⟩
  ·exact .inl rfl
  ·exact .inr h
 ·split at he
  ·rcases(ir h.mv.nd).1 he with rfl |⟨_,h⟩
   ·exact .inl rfl
   ·exact .inr h
  ·exact .inr he
theorem Mg {l:List ak} (hl:∀v∈l,vV v.slot) {e:Int×ak} (he:e∈gm l):e.2∈l:=by
 have:∀(l:List ak) (es:List (Int×ak)),KB es→(∀v∈l,vV v.slot)→∀e∈l.foldl gJ es,e.2∈l∨e∈es:=by
  intro l
  induction l with
  |nil=>intro es _ _ e he;exact .inr he
  |cons v l ih=>
   intro es h hv e he;obtain⟨h1,_,_⟩:=Ce h (hv v List.mem_cons_self);rcases ih _ h1 (fun w hw=>hv w (List.mem_cons_of_mem _ hw)) e he with h2|h2
   ·exact .inl (List.mem_cons_of_mem _ h2)
   ·rcases I6 h h2 with h3|h3
    ·rw[h3];exact .inl List.mem_cons_self
    ·exact .inr h3
 rcases this l [] ⟨⟨by simp,by simp⟩,by simp⟩ hl e he with h|h
 ·exact h
 ·cases h
theorem Cg {l:List (List ak)} (hl:∀x∈l,∀v∈x,vV v.slot) {v:ak} (hv:v∈ey l):∃x∈l,v∈x:=by
 have hf:∀v∈l.flatten,vV v.slot:=fun v hv=>by obtain⟨x,hx,hv⟩:=List.mem_flatten.1 hv;exact hl x hx v hv
 have:=Mg hf ((jn (l7 hf).1.mv).1 hv);obtain⟨x,hx,hv⟩:=List.mem_flatten.1 this;exact⟨x,hx,hv⟩
structure fj (x:aE):Prop where
 nd:(aQ x.aV).Nodup
 k5:∀w∈aQ x.aV,m5 w
 I7:∀e∈x.aV,e.2.length≤600∧∀v∈e.2,vV v.slot∧v.slot<512
theorem qB:∀(n:Nat) (l:List Int),l.Nodup→(∀w∈l,1≤w∧w≤n)→l.length≤n
 |0,l,_,h=>by
  cases l with
  |nil=>simp
  |cons a _=>have:=h a (by simp);omega
 |n+1,l,hn,h=>by
  have h1:=qB n (l.erase ((n+1:Nat):Int)) (hn.erase _) fun w hw=>by
   obtain⟨q1,q2⟩:=hn.mem_erase_iff.1 hw;have:=h w q2;omega
  rw[List.length_erase]at h1;split at h1<;>omega
theorem I8 {l:List Int} (h:l.Nodup) (h5:∀w∈l,m5 w):l.length≤5:=qB 5 l h fun w hw=>by have:=h5 w hw;unfold m5 at this;omega
theorem fj.len {x:aE} (h:fj x):x.aV.length≤5:=by have:=I8 h.nd h.k5;simpa using this
theorem aaf {w:Int} (h:m5 w):IntKind.i64.min≤w∧w≤IntKind.i64.max:=by
 unfold m5 at h;have h1:IntKind.i64.min= -9223372036854775808:=rfl;have h2:IntKind.i64.max=9223372036854775807:=rfl;omega
theorem fj.ks {x:aE} (h:fj x):lW (aQ x.aV):=⟨by have:=h.len;simp;omega,fun w hw=>aaf (h.k5 w hw),h.nd⟩
theorem fj.all {x:aE} (h:fj x):(eV x).length≤8∧∀l∈eV x,l.length≤600∧∀v∈l,vV v.slot∧v.slot<512:=by
 refine⟨by have:=h.len;simp[eV,iN];omega,fun l hl=>?_⟩;obtain⟨w,hw,rfl⟩:=List.mem_map.1 hl;cases hc:bL x.aV w with
 |none=>simp
 |some vs=>exact h.I7 _ ((bX h.nd).1 hc)
theorem KA (x:aE) (h:fj x) (hn:0≤x.bQ∧x.bQ≤512):VC E0 137 3 [.ptr 0 0] (rA x) (RR (.dk []) 3 (rA (dD x (ey (eV x))))):=by
 obtain⟨a1,a2⟩:=h.all;have hB:∀v∈ey (eV x),v.slot<512:=fun v hv=>by
  obtain⟨l,hl,hv⟩:=Cg (fun l hl v hv=>((a2 l hl).2 v hv).1) hv;exact((a2 l hl).2 v hv).2
 have hBl:(ey (eV x)).length≤4800:=by
  obtain⟨_,hlen⟩:=l7 (l:=(eV x).flatten) (fun v hv=>by obtain⟨l,hl,hv⟩:=List.mem_flatten.1 hv;exact((a2 l hl).2 v hv).1);have:=vW a1 (fun l hl=>(a2 l hl).1) (i:=(eV x).length);rw[List.take_length]at this;unfold ey;rw[Gq];omega
 refine en L0 Tryz.f137 ?_;refine⟨[],[some 0,some 1,some 2],_,_,_,_,WH x h.ks (by have:=h.len;omega),t3,cw ?_⟩;refine⟨[],[],_,_,_,_,S5 (eV x) a1 (fun l hl=>(a2 l hl).1) (fun l hl v hv=>((a2 l hl).2 v hv).1),t3,cw ?_⟩;generalize hBe:ey (eV x)=B at*
 refine⟨fun k f o c=>∃(i:Nat) (y:aE),i≤B.length∧k=B.length - i∧y=dD x (B.take i)∧0≤y.bQ∧y.bQ≤512+i∧c=3∧f=[(0,.ptr 0 0),(6,.sl 6 (B.map eZ) false),(7,.s (.int .i64 B.length)),(8,.s (.int .i64 i))]∧o=rA y,⟨B.length,?_⟩,?_⟩
 ·refine⟨[],[some 0,some 1,some 2],?_⟩
  iterate 3 constructor
  refine⟨⟨?_,?_,?_⟩,⟨0,x,Nat.zero_le _,rfl,rfl,hn.1,by have:=hn.2;simpa using this,rfl,rfl,rfl⟩⟩
  all_goals(repeat' first|exact LF|constructor)
  all_goals exact Lz.of (by simp[goInt])
 ·rintro k f1 o1 c1 ⟨i,y,hi,rfl,hy,hy0,hy1,rfl,rfl,rfl⟩;refine wh ?_;refine sp ?_ ?_<;>intro hl
  ·have hl:i<B.length:=by simpa using hl
   have pF:=hB _ (List.getElem_mem hl);have wo:dD x (B.take (i+1))=iu (dh y B[i].slot) (ao B[i]):=by rw[List.take_succ_eq_append_getElem hl,I5,hy]
   refine wh ?_;refine eT hl ?_;refine wh ?_;generalize zR:B[i]=v at*
   refine⟨fun k f o c=>∃m:Nat,m≤(v.slot - y.bQ).toNat∧k=(v.slot - y.bQ).toNat - m∧c=4∧f=[(0,.ptr 0 0),(3,.ptr 3 0),(6,.sl 6 (B.map eZ) false),(7,.s (.int .i64 B.length)),(8,.s (.int .i64 i))]∧o=[(0,kT (iY y m) 1 2),(1,iQ (iY y m)),(2,kB (iY y m)),(3,.cells (eZ v))],⟨(v.slot - y.bQ).toNat,?_⟩,?_⟩
   ·exact⟨[],[some 0,some 1,some 2,some 3],_,_,_,t3,⟨0,Nat.zero_le _,rfl,rfl,rfl,rfl⟩⟩
   ·rintro k f1 o1 c1 ⟨m,hm,rfl,rfl,rfl,rfl⟩;have hnx:=l9 y m;refine wh ?_;refine sp ?_ ?_<;>intro aN
    ·have aN:(iY y m).bQ<v.slot:=aN;refine wh ?_;refine⟨[],[some 0,some 1,some 2],_,_,_,_,DY (iY y m) aH om,t3,cw ?_⟩;refine⟨(v.slot - y.bQ).toNat - (m+1),?_,om⟩;exact⟨[],[some 0,some 1,some 2,some 3],_,_,_,t3,⟨m+1,om,rfl,rfl,rfl,rfl⟩⟩
    ·have aN:¬(iY y m).bQ<v.slot:=aN;have jF:m=(v.slot - y.bQ).toNat:=by omega
     have hup:dh y v.slot=iY y m:=by rw[jF];rfl
     refine wh ?_;refine⟨[],[some 0,some 1,some 2],_,_,_,_,DY (iY y m) (ao v) om,t3,cw ?_⟩;refine⟨B.length - (i+1),?_,om⟩;rw[hup]at wo;exact⟨[],[some 0,some 1,some 2],_,_,_,t3,⟨i+1,iu (iY y m) (ao v),hl,rfl,wo.symm,by simp[iu];omega,by simp[iu];omega,rfl,rfl,rfl⟩⟩
  ·have h':i=B.length:=by have:¬i<B.length:=by simpa using hl
                          omega
   subst h';rw[List.take_length]at hy;subst hy;refine wh ?_;exact⟨[],[some 0,some 1,some 2],_,_,_,t3,rfl,rfl,rfl⟩
theorem wV (x:aE) (fG:lW (aQ x.aV)) (h0:x.aV≠[]):VC E0 135 2 [.dc 185 [] [.ptr 1 0]] [(0,iQ x),(1,.cells [.mp 0])] (fun r o c=>r= .bg 2 (aQ x.aV).length∧c=3∧
      o=[(2,.eQ (aQ x.aV)),(0,iQ x),(1,.cells [.mp 0])]):=
 VC.collect (E:=E0) (g:=135) (lp:=[248,185]) (k:=185) (by kernel_rfl) (fun _ _=>rfl) rfl (y:=iQ x) (ks:=aQ x.aV) (by show(x.aV.map (kL .i64 c6)).map (·.1)=_;exact Kz _ _ _) fG (by intro e;simp[aQ]at e;exact h0 e)
theorem Gy (ks:List Int) (h0:0<ks.length) (hl:ks.length<1000000) (h5:∀w∈ks,m5 w):VC E0 100 1 [.s (.int .u64 0),.bg 0 ks.length] [(0,.eQ ks)] (fun r o c=>r= .s (.int .u64 (bI 0 ks))∧c=1∧o=[(0,.eQ ks)]):=
 VC.Ps (E:=E0) (g:=100) (val:=mY) (pre:=[.int .u64 0]) (by kernel_rfl) (fun _ _=>rfl) (by simp[scalar]) h0 (v:=.int .u64 (bI 0 ks)) (DW h5 hl) rfl
@[reducible] def bS (x:aE) (aM:Int) (vs:List ak):aE:={x with aV:=if aM∈aQ x.aV then x.aV else x.aV++[(aM,sV x.al vs)]}
def bY (x:aE) (b aM:Int) (vs:List ak):aE×List ak×Bool:=
 if(x.st=1∧x.b=b)∧1≤aM∧aM≤x.ae then
  (if iC (bI 0 (aQ (bS x aM vs).aV)) x.ae=true then
   (let y:=dD {bS x aM vs with st:=2} (ey (eV {bS x aM vs with st:=2}));(y,bc y,true))
  else(bS x aM vs,[],false))
 else(x,[],false)
theorem zS {x:aE} (h:fj x) {aM:Int} (hw:m5 aM) {vs:List ak} (hl:vs.length≤600) (hv:∀v∈vs,vV v.slot):fj (bS x aM vs)∧(bS x aM vs).aV≠[]:=by
 unfold bS;by_cases hm:aM∈aQ x.aV
 ·simp only[hm,if_true];exact⟨⟨h.nd,h.k5,h.I7⟩,by rintro e;simp[e,aQ]at hm⟩
 ·simp only[hm,if_false];refine⟨⟨?_,fun w FT=>?_,fun e he=>?_⟩,by simp⟩
  ·simp only[aQ,List.map_append,List.nodup_append];exact⟨h.nd,by simp,fun a ha b hb=>by simp at hb;subst hb;rintro rfl;exact hm ha⟩
  ·simp only[aQ,List.map_append,List.mem_append]at FT;rcases FT with h1|h1
   ·exact h.k5 w h1
   ·simp at h1;subst h1;exact hw
  ·rcases List.mem_append.1 he with h1|h1
   ·exact h.I7 e h1
   ·simp at h1;subst h1;refine⟨Nat.le_trans (List.length_filter_le _ _) hl,fun v pD=>?_⟩;obtain⟨q1,q2⟩:=List.mem_filter.1 pD;exact⟨hv v q1,by simp[sU]at q2;omega⟩
structure ee (x:aE):Prop where
 nd:(aQ x.dT).Nodup
 l6:∀n∈aQ x.dT,0≤n∧n<x.bQ
theorem ee.lay {x:aE} (h:ee x) (hn:0≤x.bQ) (c:cA):ee (iu x c):=by
 refine⟨sS h.nd,fun n hm=>?_⟩;have hm:n∈aQ (ib x.dT x.bQ (c,0)):=hm;rw[rz]at hm;show 0≤n∧n<x.bQ+1;split at hm
 ·have:=h.l6 n hm;omega
 ·rcases List.mem_append.1 hm with h1|h1
  ·have:=h.l6 n h1;omega
  ·simp at h1;omega
theorem ee.iY {x:aE} (h:ee x) (hn:0≤x.bQ):∀m,ee (iY x m)
 |0=>h
 |m+1=>(ee.iY h hn m).lay (by rw[l9];omega) aH
theorem ee.fill {x:aE} (h:ee x) (hn:0≤x.bQ):∀l:List ak,ee (dD x l)∧0≤(dD x l).bQ∧((∀v∈l,v.slot<512)→x.bQ≤512→(dD x l).bQ≤512+l.length):=by
 intro l
 induction l generalizing x with
 |nil=>exact⟨h,hn,fun _ hx=>by simpa[dD]using hx⟩
 |cons v l ih=>
  have e:dD x (v::l)=dD (iu (dh x v.slot) (ao v)) l:=by simp[dD]
  have h1:(dh x v.slot).bQ=x.bQ+(v.slot - x.bQ).toNat:=l9 x _;have h2:ee (dh x v.slot):=h.iY hn _;have h3:(iu (dh x v.slot) (ao v)).bQ=(dh x v.slot).bQ+1:=rfl;rw[e];have gen:∀(l:List ak) (y:aE) (k:Nat),(∀v∈l,v.slot<512)→0≤y.bQ→y.bQ≤512+k→(dD y l).bQ≤512+k+l.length:=by
   intro l
   induction l with
   |nil=>intro y k _ _ hy;simpa[dD]using hy
   |cons v l ih=>
    intro y k hv hy0 hy;have e:dD y (v::l)=dD (iu (dh y v.slot) (ao v)) l:=by simp[dD]
    have h1:(dh y v.slot).bQ=y.bQ+(v.slot - y.bQ).toNat:=l9 y _;have h3:(iu (dh y v.slot) (ao v)).bQ=(dh y v.slot).bQ+1:=rfl;have:=hv v List.mem_cons_self;have:=ih (iu (dh y v.slot) (ao v)) (k+1) (fun w hw=>hv w (List.mem_cons_of_mem _ hw)) om om;rw[e,List.length_cons];omega
  obtain⟨q1,q2,_⟩:=ih (h2.lay om (ao v)) om;refine⟨q1,q2,fun hv hx=>?_⟩;have:=hv v List.mem_cons_self;have:=gen l (iu (dh x v.slot) (ao v)) 1 (fun w hw=>hv w (List.mem_cons_of_mem _ hw)) om om;rw[List.length_cons];omega
theorem ee.len {x:aE} (h:ee x) (hn:x.bQ≤100000):x.dT.length≤100000:=by
 have h2:((aQ x.dT).map (· +1)).Nodup:=by
  refine List.Pairwise.map _ ?_ h.nd;intro a b LP e;exact LP om
 have:=qB 100000 ((aQ x.dT).map (· +1)) h2 fun w hw=>by
  obtain⟨n,KZ,rfl⟩:=List.mem_map.1 hw;have:=h.l6 n KZ;omega
 simpa using this
theorem ee.ks {x:aE} (h:ee x) (hn:x.bQ≤100000):lW (aQ x.dT):=by
 refine⟨by have:=h.len hn;simp;omega,fun n hm=>?_,h.nd⟩;have:=h.l6 n hm;have h1:IntKind.i64.min= -9223372036854775808:=rfl;have h2:IntKind.i64.max=9223372036854775807:=rfl;omega
theorem Mh {l:List (List ak)} (h8:l.length≤8) (Yn:∀x∈l,x.length≤600) (hr:∀x∈l,∀v∈x,vV v.slot):(ey l).length≤4800:=by
 obtain⟨_,hlen⟩:=l7 (l:=l.flatten) (fun v hv=>by obtain⟨x,hx,hv⟩:=List.mem_flatten.1 hv;exact hr x hx v hv);have:=vW h8 Yn (i:=l.length);rw[List.take_length]at this;unfold ey;rw[Gq];omega
theorem Gz {x:aE} (h:fj x) (ho:ee x) (hn:0≤x.bQ∧x.bQ≤512):ee (dD x (ey (eV x)))∧0≤(dD x (ey (eV x))).bQ∧(dD x (ey (eV x))).bQ≤5312:=by
 obtain⟨a1,a2⟩:=h.all;obtain⟨q1,q2,q3⟩:=ho.fill hn.1 (ey (eV x));have:=Mh a1 (fun l hl=>(a2 l hl).1) (fun l hl v hv=>((a2 l hl).2 v hv).1);have:=q3 (fun v hv=>by
  obtain⟨l,hl,hv⟩:=Cg (fun l hl v hv=>((a2 l hl).2 v hv).1) hv;exact((a2 l hl).2 v hv).2) hn.2
 exact⟨q1,q2,om⟩
theorem GA {α:Type} {es:List (Int×α)} (h:es≠[]):0<(aQ es).length:=by
 simp only[aQ,List.length_map];exact List.length_pos_iff.2 h
theorem I9 (x:aE) (b aM:Int) (vs:List ak) (hc:fj x) (ho:ee x) (hm:m5 x.ae) (hl:vs.length≤600) (hv:∀v∈vs,vV v.slot) (hn:0≤x.bQ∧x.bQ≤512):
 VC E0 97 3 [.ptr 0 0,.s (.int .u64 b),.s (.int .i64 aM),c6 vs] (rA x) (RR (.dk [c6 (bY x b aM vs).2.1,.s (.bool (bY x b aM vs).2.2)]) 3 (rA (bY x b aM vs).1)):=by
 refine en L0 Tryz.f97 ?_;refine⟨[],[some 0,some 1,some 2],_,_,_,_,PI x 1 b,t3,?_⟩;rintro r o' c' ⟨rfl,rfl,rfl⟩;have bm:=True.intro;clear bm;cases h1:decide (x.st=1∧x.b=b)
 ·have e:bY x b aM vs=(x,[],false):=by unfold bY;rw[if_neg fun h=>of_decide_eq_false h1 h.1]
  rw[e];refine wh ?_;exact⟨[],[some 0,some 1,some 2],_,_,_,t3,rfl,rfl,rfl⟩
 ·refine wh ?_;refine⟨[],[some 0,some 1,some 2],_,_,_,_,PJ x aM,t3,?_⟩;rintro r o' c' ⟨rfl,rfl,rfl⟩;have bm:=True.intro;clear bm;cases h2:decide (1≤aM∧aM≤x.ae)
  ·have e:bY x b aM vs=(x,[],false):=by unfold bY;rw[if_neg fun h=>of_decide_eq_false h2 h.2]
   rw[e];refine wh ?_;exact⟨[],[some 0,some 1,some 2],_,_,_,t3,rfl,rfl,rfl⟩
  ·have hw:m5 aM:=by have:=of_decide_eq_true h2;unfold m5 at*;omega
   have rY:=zS hc hw hl hv;refine wh ?_;have nS:=m3 .i64 .i64 c6 aM x.aV;cases hx:bL x.aV aM with
   |none=>
    have Ol:=o9.1 hx;rw[hx]at nS;refine⟨_,nS,?_⟩;refine wh ?_;refine⟨[],[],_,_,_,_,Mf vs om,t3,cw ?_⟩;refine⟨[],[some 10,some 3,some 0,some 1,some 2],_,_,_,_,S8 x vs om,t3,cw ?_⟩;refine⟨[],[some 1],_,_,_,_,zP _,t3,cw ?_⟩;have lS:dL (x.aV.map (kL .i64 c6)) (.int .i64 aM) (c6 (sV x.al vs))=(bS x aM vs).aV.map (kL .i64 c6):=by
     rw[qA,l8 Ol];simp[Ol]
    refine⟨[],[some 1,some 17],_,_,_,_,wV (bS x aM vs) rY.1.ks rY.2,⟨by((repeat' first|exact LF|constructor);all_goals(first|exact Lz.of lS|exact lS)),by((repeat' first|exact LF|constructor);all_goals(first|exact Lz.of lS|exact lS)),by rfl⟩,?_⟩;rintro r o' c' ⟨rfl,rfl,rfl⟩;refine wh ?_;refine⟨[],[some 20],_,_,_,_,Gy (aQ (bS x aM vs).aV) (GA rY.2) (by have:=I8 rY.1.nd rY.1.k5;omega) rY.1.k5,t3,cw ?_⟩;refine⟨[],[],_,_,_,_,vS (bI 0 (aQ (bS x aM vs).aV)) x.ae (jl (by decide) rY.1.k5).1 hm,t3,?_⟩;rintro r o' c' ⟨rfl,rfl,rfl⟩;have bm:=True.intro;clear bm;cases he:iC (bI 0 (aQ (bS x aM vs).aV)) x.ae
    ·have e:bY x b aM vs=(bS x aM vs,[],false):=by unfold bY;rw[if_pos ⟨of_decide_eq_true h1,of_decide_eq_true h2⟩,if_neg (by simp[he])]
     rw[e];refine wh ?_;exact⟨[],[some 0,some 1,some 2],_,_,_,t3,rfl,rfl,rfl⟩
    ·have e:bY x b aM vs=(dD {bS x aM vs with st:=2} (ey (eV {bS x aM vs with st:=2})),bc (dD {bS x aM vs with st:=2} (ey (eV {bS x aM vs with st:=2}))),true):=by unfold bY;rw[if_pos ⟨of_decide_eq_true h1,of_decide_eq_true h2⟩,if_pos he]
     have u0:fj {bS x aM vs with st:=2}:=⟨rY.1.nd,rY.1.k5,rY.1.I7⟩;obtain⟨f1,f2,f3⟩:=Gz u0 (⟨ho.nd,ho.l6⟩:ee {bS x aM vs with st:=2}) hn;rw[e];refine wh ?_;refine⟨[],[some 0,some 1,some 2],_,_,_,_,KA {bS x aM vs with st:=2} u0 hn,t3,cw ?_⟩;generalize dD {bS x aM vs with st:=2} (ey (eV {bS x aM vs with st:=2}))=z at*
     refine⟨[],[some 0,some 1,some 2],_,_,_,_,uz z (f1.ks om) (by have:=f1.len om;omega),t3,cw ?_⟩;exact⟨[],[some 0,some 1,some 2],_,_,_,t3,rfl,rfl,rfl⟩
   |some ws=>
    have hmm:aM∈aQ x.aV:=Classical.not_not.1 fun hn=>by rw[o9.2 hn]at hx;cases hx
    have EJ:x.aV=(bS x aM vs).aV:=by simp[hmm]
    rw[hx]at nS;refine⟨_,nS,?_⟩;refine wh ?_;refine⟨[],[some 1],_,_,_,_,zP _,t3,cw ?_⟩;refine⟨[],[some 1,some 11],_,_,_,_,wV (bS x aM vs) rY.1.ks rY.2,⟨by((repeat' first|exact LF|constructor);all_goals(first|exact Lz.of (by rw[←EJ])|rw[←EJ])),by((repeat' first|exact LF|constructor);all_goals(first|exact Lz.of (by rw[←EJ])|rw[←EJ])),by rfl⟩,?_⟩;rintro r o' c' ⟨rfl,rfl,rfl⟩;refine wh ?_;refine⟨[],[some 14],_,_,_,_,Gy (aQ (bS x aM vs).aV) (GA rY.2) (by have:=I8 rY.1.nd rY.1.k5;omega) rY.1.k5,t3,cw ?_⟩;refine⟨[],[],_,_,_,_,vS (bI 0 (aQ (bS x aM vs).aV)) x.ae (jl (by decide) rY.1.k5).1 hm,t3,?_⟩
    rintro r o' c' ⟨rfl,rfl,rfl⟩;have bm:=True.intro;clear bm;cases he:iC (bI 0 (aQ (bS x aM vs).aV)) x.ae
    ·have e:bY x b aM vs=(bS x aM vs,[],false):=by unfold bY;rw[if_pos ⟨of_decide_eq_true h1,of_decide_eq_true h2⟩,if_neg (by simp[he])]
     rw[e];refine wh ?_;exact⟨[],[some 0,some 1,some 2],_,_,_,t3,rfl,rfl,rfl⟩
    ·have e:bY x b aM vs=(dD {bS x aM vs with st:=2} (ey (eV {bS x aM vs with st:=2})),bc (dD {bS x aM vs with st:=2} (ey (eV {bS x aM vs with st:=2}))),true):=by unfold bY;rw[if_pos ⟨of_decide_eq_true h1,of_decide_eq_true h2⟩,if_pos he]
     have u0:fj {bS x aM vs with st:=2}:=⟨rY.1.nd,rY.1.k5,rY.1.I7⟩;obtain⟨f1,f2,f3⟩:=Gz u0 (⟨ho.nd,ho.l6⟩:ee {bS x aM vs with st:=2}) hn;rw[e];refine wh ?_;refine⟨[],[some 0,some 1,some 2],_,_,_,_,KA {bS x aM vs with st:=2} u0 hn,t3,cw ?_⟩;generalize dD {bS x aM vs with st:=2} (ey (eV {bS x aM vs with st:=2}))=z at*
     refine⟨[],[some 0,some 1,some 2],_,_,_,_,uz z (f1.ks om) (by have:=f1.len om;omega),t3,cw ?_⟩;exact⟨[],[some 0,some 1,some 2],_,_,_,t3,rfl,rfl,rfl⟩
theorem PN (r w:Int) (hr:1≤r∧r<1152921504606846976) (hw:m5 w):VC E0 149 0 [.s (.int .u64 r),.s (.int .i64 w)] [] (RR (.dk [.s (.int .u64 (8*r+w)),.s (.int .i64 0)]) 0 []):=by
 unfold m5 at hw;refine en L0 Tryz.f149 ?_;refine sp ?_ ?_<;>intro h1
 ·have h1:r<1:=h1;omega
 ·refine wh ?_;refine sp ?_ ?_<;>intro h2
  ·have h2:r≥1152921504606846976:=h2;omega
  ·refine wh ?_;refine⟨[],[],_,_,_,_,vT w,t3,?_⟩;rintro r o' c' ⟨rfl,rfl,rfl⟩;have bm:=True.intro;clear bm;cases h0:lZ w
   ·exact absurd (decide_eq_true (show w≥1∧w≤5 by omega)) (by unfold lZ at h0;simp[h0])
   ·refine wh ?_;refine⟨[],[],?_⟩
    iterate 3 constructor
    refine⟨⟨?_,?_,?_⟩,rfl,rfl,rfl⟩
    all_goals(repeat' first|exact LF|constructor)
    refine Lz.int ?_;rw[IntWalk.u64_in (8*r) om,IntWalk.u64_in w om,IntWalk.u64_in _ om]
def gp (b aM:Int):Int×Int:=
 let r0:=if 1>b / 8 then 1 else b / 8
 let r1:=if 8*r0+aM≤b then r0+1 else r0
 if r1≥1152921504606846976 then(0,9)else(8*r1+aM,0)
theorem KD (b aM:Int) (hb:0≤b∧b≤18446744073709551615) (hw:m5 aM):VC E0 109 0 [.s (.int .u64 b),.s (.int .i64 aM)] [] (RR (.dk [.s (.int .u64 (gp b aM).1),.s (.int .i64 (gp b aM).2)]) 0 []):=by
 have e0:IntKind.u64.wrap (b.tdiv 8)=b / 8:=by rw[Int.tdiv_eq_ediv_of_nonneg hb.1];exact IntWalk.u64_in _ om
 have FT:=hw;unfold m5 at hw;refine en L0 Tryz.f109 ?_;refine⟨[],[],_,_,_,_,vT aM,t3,?_⟩;rintro r o' c' ⟨rfl,rfl,rfl⟩;have bm:=True.intro;clear bm;cases h0:lZ aM
 ·exact absurd (decide_eq_true (show aM≥1∧aM≤5 by omega)) (by unfold lZ at h0;simp[h0])
 ·obtain⟨r0,Az⟩:∃r0,r0=(if(1:Int)>IntKind.u64.wrap (b.tdiv 8)then 1 else IntKind.u64.wrap (b.tdiv 8)):=⟨_,rfl⟩;have qQ:r0=if(1:Int)>b / 8 then 1 else b / 8:=by rw[Az,e0]
  have hrr:1≤r0∧r0≤2305843009213693951∧8*r0≤18446744073709551608:=by rw[qQ];split<;>omega
  refine wh ?_;refine sp ?_ ?_<;>intro h1
  ·have h1:IntKind.u64.wrap (IntKind.u64.wrap (8*(if(1:Int)>IntKind.u64.wrap (b.tdiv 8)then 1 else IntKind.u64.wrap (b.tdiv 8)))+IntKind.u64.wrap aM)≤b:=h1;rw[←Az,IntWalk.u64_in (8*r0) om,IntWalk.u64_in aM om,IntWalk.u64_in _ om]at h1;refine wh ?_;refine sp ?_ ?_<;>intro h2
   ·have h2:IntKind.u64.wrap ((if(1:Int)>IntKind.u64.wrap (b.tdiv 8)then 1 else IntKind.u64.wrap (b.tdiv 8))+1)≥1152921504606846976:=h2;rw[←Az,IntWalk.u64_in _ om]at h2;refine wh ?_;have e:gp b aM=(0,9):=by unfold gp;rw[←qQ];simp only[h1,if_true,h2]
    rw[e];exact⟨[],[],_,_,_,t3,rfl,rfl,rfl⟩
   ·have h2:¬IntKind.u64.wrap ((if(1:Int)>IntKind.u64.wrap (b.tdiv 8)then 1 else IntKind.u64.wrap (b.tdiv 8))+1)≥1152921504606846976:=h2;rw[←Az,IntWalk.u64_in _ om]at h2;refine wh ?_;have e3:IntKind.u64.wrap ((if(1:Int)>IntKind.u64.wrap (b.tdiv 8)then 1 else IntKind.u64.wrap (b.tdiv 8))+1)=r0+1:=by rw[←Az];exact IntWalk.u64_in _ om
    refine⟨[],[],_,_,_,_,PN (r0+1) aM om FT,⟨by((repeat' first|exact LF|constructor);all_goals(exact Lz.int e3)),by((repeat' first|exact LF|constructor);all_goals(exact Lz.int e3)),by rfl⟩,?_⟩;rintro r o' c' ⟨rfl,rfl,rfl⟩;refine wh ?_;have e:gp b aM=(8*(r0+1)+aM,0):=by unfold gp;rw[←qQ];simp only[h1,if_true,h2,if_false]
    rw[e];exact⟨[],[],_,_,_,t3,rfl,rfl,rfl⟩
  ·have h1:¬IntKind.u64.wrap (IntKind.u64.wrap (8*(if(1:Int)>IntKind.u64.wrap (b.tdiv 8)then 1 else IntKind.u64.wrap (b.tdiv 8)))+IntKind.u64.wrap aM)≤b:=h1;rw[←Az,IntWalk.u64_in (8*r0) om,IntWalk.u64_in aM om,IntWalk.u64_in _ om]at h1;refine wh ?_;refine sp ?_ ?_<;>intro h2
   ·have h2:(if(1:Int)>IntKind.u64.wrap (b.tdiv 8)then 1 else IntKind.u64.wrap (b.tdiv 8))≥1152921504606846976:=h2;rw[←Az]at h2;refine wh ?_;have e:gp b aM=(0,9):=by unfold gp;rw[←qQ];simp only[h1,if_false,h2,if_true]
    rw[e];exact⟨[],[],_,_,_,t3,rfl,rfl,rfl⟩
   ·have h2:¬(if(1:Int)>IntKind.u64.wrap (b.tdiv 8)then 1 else IntKind.u64.wrap (b.tdiv 8))≥1152921504606846976:=h2;rw[←Az]at h2;refine wh ?_;refine⟨[],[],_,_,_,_,PN r0 aM om FT,⟨by((repeat' first|exact LF|constructor);all_goals(exact Lz.int Az.symm)),by((repeat' first|exact LF|constructor);all_goals(exact Lz.int Az.symm)),by rfl⟩,?_⟩;rintro r o' c' ⟨rfl,rfl,rfl⟩;refine wh ?_;have e:gp b aM=(8*r0+aM,0):=by unfold gp;rw[←qQ];simp only[h1,if_false,h2]
    rw[e];exact⟨[],[],_,_,_,t3,rfl,rfl,rfl⟩
@[reducible] def ma (me ae b al:Int):aE:=⟨me,ae,1,b,al,al,[],[]⟩
def kW (a b:cA):Bool:=decide (a.kind=b.kind∧a.chain=b.chain∧a.aq=b.aq∧a.node=b.node)
theorem vY {a b:cA}:kW a b=true↔a=b:=by
 obtain⟨a1,a2,a3,a4⟩:=a;obtain⟨b1,b2,b3,b4⟩:=b;simp[kW]
theorem uA (a b:cA):(nQ (.int .i64 a.kind) (.int .i64 b.kind)&&(nQ (.int .i64 a.chain) (.int .i64 b.chain)&&(nQ (.int .u64 a.aq) (.int .u64 b.aq)&&(nQ (.int .i64 a.node) (.int .i64 b.node)&&true))))=kW a b:=by
 rw[Bool.eq_iff_iff];simp[nQ,kW]
@[reducible] def WI (c:cA):Ob:=[(0,.cells [.s (.int .i64 c.kind),.s (.int .i64 c.chain),.s (.int .u64 c.aq),.s (.int .i64 c.node)])]
theorem PO (c:cA) (v:ak):VC E0 199 1 [.agg (eZ v),.ptr 0 0] (WI c) (RR (.s (.bool (kW (ao v) c))) 1 (WI c)):=by
 refine en L0 Tryz.f199 ?_;refine sp ?_ ?_<;>intro h
 ·have h:kW (ao v) c=true:=(uA (ao v) c).symm.trans h;rw[h];refine wh ?_;exact⟨[],[some 0],_,_,_,t3,rfl,rfl,rfl⟩
 ·have h:kW (ao v) c=false:=by
   have:¬kW (ao v) c=true:=fun e=>h ((uA (ao v) c).trans e);simpa using this
  rw[h];refine wh ?_;exact⟨[],[some 0],_,_,_,t3,rfl,rfl,rfl⟩
theorem S9 (c:cA) (vs:List ak) (hl:vs.length<1000000):VC E0 183 1 [c6 vs,.dc 199 [] [.ptr 0 0]] (WI c)
 (fun r o c'=>∃i:Int,r= .s (.int .i64 i)∧c'=1∧o=WI c∧((i= -1∧∀v∈vs,kW (ao v) c=false)∨0≤i∧∃v∈vs,kW (ao v) c=true)):=by
 refine en L0 Tryz.f183 ?_;refine⟨fun k f o c'=>∃j:Nat,j≤vs.length∧k=vs.length - j∧(∀v∈vs.take j,kW (ao v) c=false)∧c'=1∧f=[(0,c6 vs),(1,.dc 199 [] [.ptr 0 0]),(7,.s (.int .i64 vs.length)),(8,.s (.int .i64 j))]∧o=WI c,⟨vs.length,?_⟩,?_⟩
 ·refine⟨[],[some 0],?_⟩
  iterate 3 constructor
  refine⟨⟨?_,?_,?_⟩,⟨0,Nat.zero_le _,rfl,by simp,rfl,rfl,rfl⟩⟩
  all_goals(repeat' first|exact LF|constructor)
  all_goals first|exact Lz.of (by simp[goInt])|exact Lz.rfl
 ·rintro k f1 o1 c1 ⟨j,hj,rfl,hb,rfl,rfl,rfl⟩;refine wh ?_;refine sp ?_ ?_<;>intro h
  ·have h:j<vs.length:=by simpa using h
   refine wh ?_;refine eT h ?_;refine wh ?_;refine⟨[],[some 0],_,_,_,_,PO c vs[j],t3,?_⟩;rintro r o' c' ⟨rfl,rfl,rfl⟩;have bm:=True.intro;clear bm;cases hv:kW (ao vs[j]) c
   ·refine wh ?_;refine⟨vs.length - (j+1),?_,om⟩;refine⟨[],[some 0],?_⟩
    iterate 3 constructor
    refine⟨⟨?_,?_,?_⟩,⟨j+1,h,rfl,by intro v pD;rw[List.take_succ_eq_append_getElem h]at pD;rcases List.mem_append.1 pD with h1|h1;exact hb v h1;simp at h1;subst h1;exact hv,rfl,rfl,rfl⟩⟩
    all_goals(repeat' first|exact LF|constructor)
    all_goals exact Lz.rfl
   ·refine wh ?_;exact⟨[],[some 0],_,_,_,t3,(j:Int),rfl,rfl,rfl,.inr ⟨om,_,List.getElem_mem h,hv⟩⟩
  ·have h':j=vs.length:=by have:¬j<vs.length:=by simpa using h
                           omega
   subst h';rw[List.take_length]at hb;refine wh ?_;exact⟨[],[some 0],_,_,_,t3,-1,rfl,rfl,rfl,.inl ⟨rfl,hb⟩⟩
def vZ (c:cA) (vs:List ak):Bool:=vs.any fun v=>kW (ao v) c
theorem DZ (c:cA) (vs:List ak) (hl:vs.length<1000000):VC E0 198 1 [c6 vs,.dc 199 [] [.ptr 0 0]] (WI c) (RR (.s (.bool (vZ c vs))) 1 (WI c)):=by
 refine en L0 Tryz.f198 ?_;refine⟨[],[some 0],_,_,_,_,S9 c vs hl,t3,?_⟩;rintro r o' c' ⟨i,rfl,rfl,rfl,hi⟩;refine wh ?_;refine sp ?_ ?_<;>intro h
 ·have h:i≥0:=h;refine wh ?_;refine⟨[],[some 0],?_⟩
  iterate 3 constructor
  refine⟨⟨?_,?_,?_⟩,rfl,rfl,rfl⟩
  all_goals(repeat' first|exact LF|constructor)
  refine Lz.of (ah (Eq.symm ?_));rcases hi with⟨e,_⟩|⟨_,v,hv,hs⟩
  ·omega
  ·exact List.any_eq_true.2 ⟨v,hv,hs⟩
 ·have h:¬i≥0:=h;refine wh ?_;refine⟨[],[some 0],?_⟩
  iterate 3 constructor
  refine⟨⟨?_,?_,?_⟩,rfl,rfl,rfl⟩
  all_goals(repeat' first|exact LF|constructor)
  refine Lz.of (ah (Eq.symm ?_));rcases hi with⟨_,cC⟩|⟨e,_⟩
  ·exact List.any_eq_false.2 fun v hv=>by rw[cC v hv];simp
  ·omega
theorem GB (x:aE) (c:cA) (ho:ee x) (hn:x.bQ≤100000):VC E0 143 3 [.ptr 0 0,Ky c] (rA x) (RR (.s (.bool (vZ c (bc x)))) 3 (rA x)):=by
 have hlen:(bc x).length<1000000:=by have:=ho.len hn;simp[bc,iN];omega
 refine en L0 Tryz.f143 ?_;refine⟨[],[some 0,some 1,some 2],_,_,_,_,uz x (ho.ks hn) (by have:=ho.len hn;omega),t3,cw ?_⟩;refine⟨[],[some 3],_,_,_,_,DZ c (bc x) hlen,t3,cw ?_⟩;exact⟨[],[some 0,some 1,some 2],_,_,_,t3,rfl,rfl,rfl⟩
def aD (x:aE) (c:cA):aE×ak×Int:=
 if x.st≠2 then(x,dX,12)else if c.check≠0 then(x,dX,c.check)else if c.kind≠0∧vZ c (bc x)=true then(x,dX,8)
 else if x.dT.length≥8∨x.bQ≥512 then(x,dX,9)else(iu x c,kV (iu x c) x.bQ,0)
theorem Ja (x:aE) (c:cA) (ho:ee x) (hn:0≤x.bQ∧x.bQ≤100000):VC E0 105 3 [.ptr 0 0,Ky c] (rA x) (RR (.dk [.agg (eZ (aD x c).2.1),.s (.int .i64 (aD x c).2.2)]) 3 (rA (aD x c).1)):=by
 refine en L0 Tryz.f105 ?_;refine sp ?_ ?_<;>intro h1
 ·have h1:x.st≠2:=h1;have e:aD x c=(x,dX,12):=by unfold aD;rw[if_pos h1]
  rw[e];refine wh ?_;exact⟨[],[some 0,some 1,some 2],_,_,_,t3,rfl,rfl,rfl⟩
 ·have h1:x.st=2:=Classical.not_not.1 h1;refine wh ?_;refine⟨[],[],_,_,_,_,l5 c.kind c.chain c.aq c.node,t3,cw ?_⟩;refine sp ?_ ?_<;>intro h2
  ·have h2:c.check≠0:=h2;have e:aD x c=(x,dX,c.check):=by unfold aD;rw[if_neg (fun h=>h h1),if_pos h2]
   rw[e];refine wh ?_;exact⟨[],[some 0,some 1,some 2],_,_,_,t3,rfl,rfl,rfl⟩
  ·have h2:c.check=0:=Classical.not_not.1 h2;refine wh ?_;refine sp ?_ ?_<;>intro h6
   ·have h6:c.kind≠0:=h6;refine wh ?_;refine⟨[],[some 0,some 1,some 2],_,_,_,_,GB x c ho hn.2,t3,?_⟩;rintro r o' c' ⟨rfl,rfl,rfl⟩;have bm:=True.intro;clear bm;cases h7:vZ c (bc x)
    ·have h3:¬(c.kind≠0∧vZ c (bc x)=true):=fun h=>by simp[h7]at h
     refine wh ?_;refine sp ?_ ?_<;>intro h4
     ·have h4:((x.dT.map (kL .i64 zO)).length:Int)≥8:=h4;rw[List.length_map]at h4;have e:aD x c=(x,dX,9):=by unfold aD;rw[if_neg (fun h=>h h1),if_neg (fun h=>h h2),if_neg h3,if_pos (.inl om)]
      rw[e];refine wh ?_;exact⟨[],[some 0,some 1,some 2],_,_,_,t3,rfl,rfl,rfl⟩
     ·have h4:¬((x.dT.map (kL .i64 zO)).length:Int)≥8:=h4;rw[List.length_map]at h4;refine wh ?_;refine sp ?_ ?_<;>intro h5
      ·have h5:x.bQ≥512:=h5;have e:aD x c=(x,dX,9):=by unfold aD;rw[if_neg (fun h=>h h1),if_neg (fun h=>h h2),if_neg h3,if_pos (.inr h5)]
       rw[e];refine wh ?_;exact⟨[],[some 0,some 1,some 2],_,_,_,t3,rfl,rfl,rfl⟩
      ·have h5:¬x.bQ≥512:=h5;have e:aD x c=(iu x c,kV (iu x c) x.bQ,0):=by unfold aD;rw[if_neg (fun h=>h h1),if_neg (fun h=>h h2),if_neg h3,if_neg om]
       rw[e];refine wh ?_;refine⟨[],[some 0,some 1,some 2],_,_,_,_,DY x c om,t3,cw ?_⟩;refine⟨[],[some 0,some 1,some 2],_,_,_,_,uy (iu x c) x.bQ,t3,cw ?_⟩;exact⟨[],[some 0,some 1,some 2],_,_,_,t3,rfl,rfl,rfl⟩
    ·have e:aD x c=(x,dX,8):=by unfold aD;rw[if_neg (fun h=>h h1),if_neg (fun h=>h h2),if_pos ⟨h6,h7⟩]
     rw[e];refine wh ?_;exact⟨[],[some 0,some 1,some 2],_,_,_,t3,rfl,rfl,rfl⟩
   ·have h6:¬c.kind≠0:=h6;have h3:¬(c.kind≠0∧vZ c (bc x)=true):=fun h=>h6 h.1;refine wh ?_;refine sp ?_ ?_<;>intro h4
    ·have h4:((x.dT.map (kL .i64 zO)).length:Int)≥8:=h4;rw[List.length_map]at h4;have e:aD x c=(x,dX,9):=by unfold aD;rw[if_neg (fun h=>h h1),if_neg (fun h=>h h2),if_neg h3,if_pos (.inl om)]
     rw[e];refine wh ?_;exact⟨[],[some 0,some 1,some 2],_,_,_,t3,rfl,rfl,rfl⟩
    ·have h4:¬((x.dT.map (kL .i64 zO)).length:Int)≥8:=h4;rw[List.length_map]at h4;refine wh ?_;refine sp ?_ ?_<;>intro h5
     ·have h5:x.bQ≥512:=h5;have e:aD x c=(x,dX,9):=by unfold aD;rw[if_neg (fun h=>h h1),if_neg (fun h=>h h2),if_neg h3,if_pos (.inr h5)]
      rw[e];refine wh ?_;exact⟨[],[some 0,some 1,some 2],_,_,_,t3,rfl,rfl,rfl⟩
     ·have h5:¬x.bQ≥512:=h5;have e:aD x c=(iu x c,kV (iu x c) x.bQ,0):=by unfold aD;rw[if_neg (fun h=>h h1),if_neg (fun h=>h h2),if_neg h3,if_neg om]
      rw[e];refine wh ?_;refine⟨[],[some 0,some 1,some 2],_,_,_,_,DY x c om,t3,cw ?_⟩;refine⟨[],[some 0,some 1,some 2],_,_,_,_,uy (iu x c) x.bQ,t3,cw ?_⟩;exact⟨[],[some 0,some 1,some 2],_,_,_,t3,rfl,rfl,rfl⟩
def ax (x:aE) (b slot aM:Int):aE×ak×Bool:=
 if(x.st=2∧x.b=b)∧1≤aM∧aM≤x.ae then
  (match bL x.dT slot with
  |none=>(x,dX,false)
  |some p=>if iC (bI p.2 [aM]) x.ae=true then({x with dT:=Gw (ib x.dT slot (p.1,bI p.2 [aM])) slot},.of slot x.b p.1,true)else({x with dT:=ib x.dT slot (p.1,bI p.2 [aM])},dX,false))
 else(x,dX,false)
theorem GC (x:aE) (b slot aM:Int) (hm:m5 x.ae) (lz:∀e∈x.dT,rM e.2.2) (AG:(aQ x.dT).Nodup):
 VC E0 44 3 [.ptr 0 0,.s (.int .u64 b),.s (.int .i64 slot),.s (.int .i64 aM)] (rA x) (RR (.dk [.agg (eZ (ax x b slot aM).2.1),.s (.bool (ax x b slot aM).2.2)]) 3 (rA (ax x b slot aM).1)):=by
 refine en L0 Tryz.f44 ?_;refine⟨[],[some 0,some 1,some 2],_,_,_,_,PI x 2 b,t3,?_⟩;rintro r o' c' ⟨rfl,rfl,rfl⟩;have bm:=True.intro;clear bm;cases h1:decide (x.st=2∧x.b=b)
 ·have e:ax x b slot aM=(x,dX,false):=by unfold ax;rw[if_neg fun h=>of_decide_eq_false h1 h.1]
  rw[e];refine wh ?_;exact⟨[],[some 0,some 1,some 2],_,_,_,t3,rfl,rfl,rfl⟩
 ·refine wh ?_;refine⟨[],[some 0,some 1,some 2],_,_,_,_,PJ x aM,t3,?_⟩;rintro r o' c' ⟨rfl,rfl,rfl⟩;have bm:=True.intro;clear bm;cases h2:decide (1≤aM∧aM≤x.ae)
  ·have e:ax x b slot aM=(x,dX,false):=by unfold ax;rw[if_neg fun h=>of_decide_eq_false h2 h.2]
   rw[e];refine wh ?_;exact⟨[],[some 0,some 1,some 2],_,_,_,t3,rfl,rfl,rfl⟩
  ·have hw:m5 aM:=by have:=of_decide_eq_true h2;unfold m5 at*;omega
   refine wh ?_;have nS:=m3 .i64 .i64 zO slot x.dT;cases hx:bL x.dT slot with
   |none=>
    have e:ax x b slot aM=(x,dX,false):=by unfold ax;rw[if_pos ⟨of_decide_eq_true h1,of_decide_eq_true h2⟩,hx]
    rw[hx]at nS;refine⟨_,nS,?_⟩;rw[e];refine wh ?_;exact⟨[],[some 0,some 1,some 2],_,_,_,t3,rfl,rfl,rfl⟩
   |some p=>
    have Np:rM p.2:=lz _ ((bX AG).1 hx);rw[hx]at nS;refine⟨_,nS,?_⟩;refine wh ?_;refine⟨[11],[],_,_,_,_,DV p.2 [aM] Np (by simpa using hw) (by simp),t3,cw ?_⟩;have Wu:rM (bI p.2 [aM]):=jl Np (by simpa using hw);have lS:=qA .i64 zO slot (p.1,bI p.2 [aM]) x.dT;refine⟨[],[],_,_,_,_,vS (bI p.2 [aM]) x.ae Wu.1 hm,t3,?_⟩;rintro r o' c' ⟨rfl,rfl,rfl⟩;have bm:=True.intro;clear bm;cases he:iC (bI p.2 [aM]) x.ae
    ·have e:ax x b slot aM=({x with dT:=ib x.dT slot (p.1,bI p.2 [aM])},dX,false):=by unfold ax;rw[if_pos ⟨of_decide_eq_true h1,of_decide_eq_true h2⟩,hx];simp only;rw[if_neg (by simp[he])]
     rw[e];refine wh ?_;refine⟨[],[some 0,some 1,some 2],_,_,_,tx ?_,rfl,rfl,rfl⟩;exact Lz.of lS
    ·have e:ax x b slot aM=({x with dT:=Gw (ib x.dT slot (p.1,bI p.2 [aM])) slot},.of slot x.b p.1,true):=by unfold ax;rw[if_pos ⟨of_decide_eq_true h1,of_decide_eq_true h2⟩,hx];simp only;rw[if_pos he]
     have hvo:kV {x with dT:=ib x.dT slot (p.1,bI p.2 [aM])} slot= .of slot x.b p.1:=by simp[kV,oi]
     rw[e];refine wh ?_;refine⟨[],[some 0,some 1,some 2],_,_,_,_,uy {x with dT:=ib x.dT slot (p.1,bI p.2 [aM])} slot,⟨by((repeat' first|exact LF|constructor);all_goals(first|exact Lz.of lS|exact lS)),by((repeat' first|exact LF|constructor);all_goals(first|exact Lz.of lS|exact lS)),by rfl⟩,?_⟩;rintro r o' c' ⟨rfl,rfl,rfl⟩;refine wh ?_;rw[hvo];refine⟨[],[some 0,some 1,some 2],_,_,_,tx ?_,rfl,rfl,rfl⟩;exact Lz.of (PH .i64 .i64 zO slot _)
def cP (x:aE) (b:Int):aE×Bool:=if x.st=0∨b≤x.b then(x,false)else({x with st:=0,dT:=[],aV:=[]},true)
theorem Mi (x:aE) (b:Int):VC E0 48 3 [.ptr 0 0,.s (.int .u64 b)] (rA x) (RR (.s (.bool (cP x b).2)) 3 (rA (cP x b).1)):=by
 refine en L0 Tryz.f48 ?_;refine sp ?_ ?_<;>intro h1
 ·have h1:x.st=0:=h1;have e:cP x b=(x,false):=by unfold cP;rw[if_pos (.inl h1)]
  rw[e];refine wh ?_;exact⟨[],[some 0,some 1,some 2],_,_,_,t3,rfl,rfl,rfl⟩
 ·have h1:¬x.st=0:=h1;refine wh ?_;refine sp ?_ ?_<;>intro h2
  ·have h2:b≤x.b:=h2;have e:cP x b=(x,false):=by unfold cP;rw[if_pos (.inr h2)]
   rw[e];refine wh ?_;exact⟨[],[some 0,some 1,some 2],_,_,_,t3,rfl,rfl,rfl⟩
  ·have h2:¬b≤x.b:=h2;have e:cP x b=({x with st:=0,dT:=[],aV:=[]},true):=by unfold cP;rw[if_neg (by rintro(h|h);exact h1 h;exact h2 h)]
   rw[e];refine wh ?_;exact⟨[],[some 0,some 1,some 2],_,_,_,t3,rfl,rfl,rfl⟩
end Go.M
namespace Go.M
open Go
end Go.M
namespace Go.M
open Go Go.Proofs
set_option maxRecDepth 100000
set_option maxHeartbeats 4000000
theorem PQ (l:List Int) (x:Int) (hl:l.length<1000000):VC E0 110 0 [.sl 1 (l.map aR) false,.s (.int .i64 x)] [] (RR (.s (.bool (decide (x∈l)))) 0 []):=by
 refine en L0 Tryz.f110 ?_;refine⟨fun k f o c=>∃j:Nat,j≤l.length∧k=l.length - j∧x∉l.take j∧c=0∧f=[(0,.sl 1 (l.map aR) false),(1,.s (.int .i64 x)),(5,.s (.int .i64 j))]∧o=[],⟨l.length,?_⟩,?_⟩
 ·exact⟨[],[],_,_,_,t3,⟨0,Nat.zero_le _,rfl,by simp,rfl,rfl,rfl⟩⟩
 ·rintro k f1 o1 c1 ⟨j,hj,rfl,hn,rfl,rfl,rfl⟩;refine wh ?_;refine sp ?_ ?_<;>intro h
  ·have h:j<l.length:=dZ.1 h;refine wh ?_;refine eT h ?_;refine wh ?_;refine sp ?_ ?_<;>intro he
   ·have he:l[j]=x:=he;refine wh ?_;refine⟨[],[],_,_,_,tx ?_,rfl,rfl,rfl⟩;exact Lz.of (ah (Eq.symm (decide_eq_true (he▸List.getElem_mem h))))
   ·have he:¬l[j]=x:=he;refine wh ?_;refine⟨l.length - (j+1),?_,om⟩;exact⟨[],[],_,_,_,t3,⟨j+1,h,rfl,(by rw[List.take_succ_eq_append_getElem h];simp only[List.mem_append,List.mem_singleton,not_or];exact⟨hn,fun e=>he e.symm⟩),rfl,rfl,rfl⟩⟩
  ·have Gv:j=l.length:=by have:=mt dZ.2 h
                          omega
   subst Gv;rw[List.take_length]at hn;refine wh ?_;refine⟨[],[],_,_,_,tx ?_,rfl,rfl,rfl⟩;exact Lz.of (ah (Eq.symm (decide_eq_false hn)))
abbrev Prp:=Int×cA×List Int
def AM (a b:Int):Int:=if b>a then b else a
def aU (x:aE) (above al:Int):Int×Int:=if al<0∨al>512 then(0,1)else if(gp (AM above x.b) x.me).2≠0 then(0,(gp (AM above x.b) x.me).2)else gp (AM above x.b) x.me
theorem Jb {a b:Int} (ha:0≤a∧a≤18446744073709551615) (hb:0≤b∧b≤18446744073709551615):0≤AM a b∧AM a b≤18446744073709551615:=by unfold AM;split<;>assumption
@[reducible] def i0:TV:=.s (.int .i64 0)
set_option maxHeartbeats 8000000
def inS (s:Int) (v:ak):Bool:=decide (s≤v.slot)&&decide (v.slot<512)
@[reducible] def nE (me ae:Int):aE:=⟨me,ae,0,0,0,0,[],[]⟩
theorem Ch (x:aE) (above al:Int) (ha:0≤above∧above≤18446744073709551615) (hb:0≤x.b∧x.b≤18446744073709551615) (hm:m5 x.me):
 VC E0 59 3 [.ptr 0 0,.s (.int .u64 above),.s (.int .i64 al)] (rA x) (fun r o c=>r= .dk [.s (.int .u64 (aU x above al).1),.s (.int .i64 (aU x above al).2)]∧
  (((aU x above al).2≠0∧c=3∧o=rA x)∨((aU x above al).2=0∧c=5∧o=[(0,kT (ma x.me x.ae (aU x above al).1 al) 3 4),(3,iQ (ma x.me x.ae (aU x above al).1 al)),(4,kB (ma x.me x.ae (aU x above al).1 al))]))):=by
 refine en L0 Tryz.f59 ?_;refine sp ?_ ?_<;>intro a1
 ·have a1:al<0:=a1;have e:aU x above al=(0,1):=by unfold aU;rw[if_pos (.inl a1)]
  rw[e];refine wh ?_;exact⟨[],[some 0,some 1,some 2],_,_,_,t3,rfl,.inl ⟨by decide,rfl,rfl⟩⟩
 ·have a1:¬al<0:=a1;refine wh ?_;refine sp ?_ ?_<;>intro a2
  ·have a2:al>512:=a2;have e:aU x above al=(0,1):=by unfold aU;rw[if_pos (.inr a2)]
   rw[e];refine wh ?_;exact⟨[],[some 0,some 1,some 2],_,_,_,t3,rfl,.inl ⟨by decide,rfl,rfl⟩⟩
  ·have a2:¬al>512:=a2;refine wh ?_;refine⟨[],[],_,_,_,_,KD (AM above (x).b) (x).me (Jb ha hb) hm,⟨by((repeat' first|exact LF|constructor);all_goals(exact Lz.rfl)),by((repeat' first|exact LF|constructor);all_goals(exact Lz.rfl)),by rfl⟩,?_⟩;rintro r o' c' ⟨rfl,rfl,rfl⟩;refine wh ?_;refine sp ?_ ?_<;>intro a3
   ·have a3:(gp (AM above (x).b) (x).me).2≠0:=a3;have e:aU x above al=(0,(gp (AM above (x).b) (x).me).2):=by unfold aU;rw[if_neg om,if_pos a3]
    rw[e];refine wh ?_;exact⟨[],[some 0,some 1,some 2],_,_,_,t3,rfl,.inl ⟨a3,rfl,rfl⟩⟩
   ·have a3:(gp (AM above (x).b) (x).me).2=0:=Classical.not_not.1 a3;have e:aU x above al=gp (AM above (x).b) (x).me:=by unfold aU;rw[if_neg om,if_neg (fun h=>h a3)]
    rw[e];refine wh ?_;refine⟨[],[some 0,some 1,some 2,some 3,some 4],?_⟩
    iterate 3 constructor
    refine⟨⟨?_,?_,?_⟩,rfl,.inr ⟨a3,rfl,rfl⟩⟩
    all_goals(repeat' first|exact LF|constructor)
    all_goals first|exact Lz.rfl|exact Lz.int a3.symm
theorem Jc (me ae:Int) (above al:Int) (ha:0≤above∧above≤18446744073709551615) (hm:m5 me):
 VC E0 59 1 [.ptr 0 0,.s (.int .u64 above),.s (.int .i64 al)] [(0,kU me ae)] (fun r o c=>r= .dk [.s (.int .u64 (aU (nE me ae) above al).1),.s (.int .i64 (aU (nE me ae) above al).2)]∧
  (((aU (nE me ae) above al).2≠0∧c=1∧o=[(0,kU me ae)])∨((aU (nE me ae) above al).2=0∧c=3∧o=rA (ma me ae (aU (nE me ae) above al).1 al)))):=by
 have hb:0≤(nE me ae).b∧(nE me ae).b≤18446744073709551615:=by simp
 refine en L0 Tryz.f59 ?_;refine sp ?_ ?_<;>intro a1
 ·have a1:al<0:=a1;have e:aU (nE me ae) above al=(0,1):=by unfold aU;rw[if_pos (.inl a1)]
  rw[e];refine wh ?_;exact⟨[],[some 0],_,_,_,t3,rfl,.inl ⟨by decide,rfl,rfl⟩⟩
 ·have a1:¬al<0:=a1;refine wh ?_;refine sp ?_ ?_<;>intro a2
  ·have a2:al>512:=a2;have e:aU (nE me ae) above al=(0,1):=by unfold aU;rw[if_pos (.inr a2)]
   rw[e];refine wh ?_;exact⟨[],[some 0],_,_,_,t3,rfl,.inl ⟨by decide,rfl,rfl⟩⟩
  ·have a2:¬al>512:=a2;refine wh ?_;refine⟨[],[],_,_,_,_,KD (AM above ((nE me ae)).b) ((nE me ae)).me (Jb ha hb) hm,⟨by((repeat' first|exact LF|constructor);all_goals(exact Lz.rfl)),by((repeat' first|exact LF|constructor);all_goals(exact Lz.rfl)),by rfl⟩,?_⟩;rintro r o' c' ⟨rfl,rfl,rfl⟩;refine wh ?_;refine sp ?_ ?_<;>intro a3
   ·have a3:(gp (AM above ((nE me ae)).b) ((nE me ae)).me).2≠0:=a3;have e:aU (nE me ae) above al=(0,(gp (AM above ((nE me ae)).b) ((nE me ae)).me).2):=by unfold aU;rw[if_neg om,if_pos a3]
    rw[e];refine wh ?_;exact⟨[],[some 0],_,_,_,t3,rfl,.inl ⟨a3,rfl,rfl⟩⟩
   ·have a3:(gp (AM above ((nE me ae)).b) ((nE me ae)).me).2=0:=Classical.not_not.1 a3;have e:aU (nE me ae) above al=gp (AM above ((nE me ae)).b) ((nE me ae)).me:=by unfold aU;rw[if_neg om,if_neg (fun h=>h a3)]
    rw[e];refine wh ?_;refine⟨[],[some 0,some 1,some 2],?_⟩
    iterate 3 constructor
    refine⟨⟨?_,?_,?_⟩,rfl,.inr ⟨a3,rfl,rfl⟩⟩
    all_goals(repeat' first|exact LF|constructor)
    all_goals first|exact Lz.rfl|exact Lz.int a3.symm
theorem PR (me ae s b:Int) (hs:s≠0):VC E0 98 1 [.ptr 0 0,.s (.int .i64 s),.s (.int .u64 b)] [(0,kU me ae)] (RR (.s (.bool false)) 1 [(0,kU me ae)]):=by
 refine en L0 Tryz.f98 ?_;refine sp ?_ ?_<;>intro h
 ·have h:0=s:=h;exact absurd h.symm hs
 ·refine wh ?_;exact⟨[],[some 0],_,_,_,t3,rfl,rfl,rfl⟩
theorem GD (me ae b w:Int) (vs:List ak):VC E0 97 1 [.ptr 0 0,.s (.int .u64 b),.s (.int .i64 w),c6 vs] [(0,kU me ae)] (RR (.dk [c6 [],.s (.bool false)]) 1 [(0,kU me ae)]):=by
 refine en L0 Tryz.f97 ?_;refine⟨[],[some 0],_,_,_,_,PR me ae 1 b (by decide),t3,cw ?_⟩;exact⟨[],[some 0],_,_,_,t3,rfl,rfl,rfl⟩
theorem D0 (me ae b s w:Int):VC E0 44 1 [.ptr 0 0,.s (.int .u64 b),.s (.int .i64 s),.s (.int .i64 w)] [(0,kU me ae)] (RR (.dk [.agg (eZ dX),.s (.bool false)]) 1 [(0,kU me ae)]):=by
 refine en L0 Tryz.f44 ?_;refine⟨[],[some 0],_,_,_,_,PR me ae 2 b (by decide),t3,cw ?_⟩;exact⟨[],[some 0],_,_,_,t3,rfl,rfl,rfl⟩
theorem GF (me ae:Int) (c:cA):VC E0 105 1 [.ptr 0 0,Ky c] [(0,kU me ae)] (RR (.dk [.agg (eZ dX),.s (.int .i64 12)]) 1 [(0,kU me ae)]):=by
 refine en L0 Tryz.f105 ?_
 ((first|(refine⟨fun h_=>?_,fun h_=>?_⟩)|(refine cU (fun h_=>?_) (fun h_=>?_))|(refine cS (fun h_=>?_) (fun h_=>?_)))<;>first|(exfalso;revert h_;decide;done)|(exact absurd rfl h_)|(have bm:=True.intro;clear bm;(conv=>whnf)))
 exact⟨[],[some 0],_,_,_,t3,rfl,rfl,rfl⟩
theorem Jd (me ae b:Int):VC E0 48 1 [.ptr 0 0,.s (.int .u64 b)] [(0,kU me ae)] (RR (.s (.bool false)) 1 [(0,kU me ae)]):=by
 refine en L0 Tryz.f48 ?_
 ((first|(refine⟨fun h_=>?_,fun h_=>?_⟩)|(refine cU (fun h_=>?_) (fun h_=>?_))|(refine cS (fun h_=>?_) (fun h_=>?_)))<;>first|(exfalso;revert h_;decide;done)|(exact absurd rfl h_)|(have bm:=True.intro;clear bm;(conv=>whnf)))
 exact⟨[],[some 0],_,_,_,t3,rfl,rfl,rfl⟩
theorem Mj:VC E0 107 0 [.s (.map none)] [] (fun r o c=>r= .dc 146 [] [.ptr 0 0]∧c=1∧o=[(0,.cells [.s (.map none)])]):=by
 refine en L0 Tryz.f107 ?_;exact⟨[],[some 0],_,_,_,t3,rfl,rfl,rfl⟩
theorem Je:VC E0 106 1 [.dc 146 [] [.ptr 0 0]] [(0,.cells [.s (.map none)])] (fun r o c=>r= .sl 0 [] true∧c=1∧o=[(0,.cells [.s (.map none)])]):=
 VC.L2 (E:=E0) (g:=106) (lp:=[248,146,185]) Cf (fun _ _=>rfl) rfl
theorem PS (me ae:Int):VC E0 56 1 [.ptr 0 0] [(0,kU me ae)] (RR (c6 []) 1 [(0,kU me ae)]):=by
 refine en L0 Tryz.f56 ?_;refine⟨[],[],_,_,_,_,Mj,t3,cw ?_⟩;refine⟨[],[some 1],_,_,_,_,Je,t3,cw ?_⟩;refine⟨fun k f o c=>k=0∧c=1∧f=[(0,.ptr 0 0),(3,.sl 0 [] true),(14,.s (.int .i64 0)),(15,.s (.int .i64 0))]∧o=[(0,kU me ae)],⟨0,?_⟩,?_⟩
 ·exact⟨[],[some 0],_,_,_,t3,⟨rfl,rfl,rfl,rfl⟩⟩
 ·rintro k f1 o1 c1 ⟨rfl,rfl,rfl,rfl⟩;refine wh ?_
  ((first|(refine⟨fun h_=>?_,fun h_=>?_⟩)|(refine cU (fun h_=>?_) (fun h_=>?_))|(refine cS (fun h_=>?_) (fun h_=>?_)))<;>first|(exfalso;revert h_;decide;done)|(exact absurd rfl h_)|(have bm:=True.intro;clear bm;(conv=>whnf)))
  exact⟨[],[some 0],_,_,_,t3,rfl,rfl,rfl⟩
theorem jT {n m:Int} {v:ak}:∀{es:List (Int×ak)},ew (jS es n v) m=if m=n then some v else ew es m
 |[]=>by simp[jS,ew]
 |e::es=>by
  have ih:=jT (n:=n) (m:=m) (v:=v) (es:=es);unfold jS;by_cases he:n=e.1
  ·simp only[he,if_true,ew];by_cases hm:m=e.1<;>simp[hm]
  ·simp only[he,if_false,ew,ih];by_cases hm:m=e.1
   ·rw[if_pos hm,if_pos hm,if_neg];rintro rfl;exact he hm
   ·rw[if_neg hm,if_neg hm]
def better (o:Option ak) (v:ak):Option ak:=match o with
 |none=>some v
 |some w=>if v.ai>w.ai then some v else some w
theorem GG {es:List (Int×ak)} {v:ak} {n:Int}:ew (gJ es v) n=if n=v.slot then better (ew es n) v else ew es n:=by
 unfold gJ;by_cases hn:n=v.slot
 ·subst hn;rw[if_pos rfl];cases h:ew es v.slot with
  |none=>simp[jT,better]
  |some w=>
   simp only[better];split
   ·simp[jT]
   ·exact h
 ·rw[if_neg hn];split
  ·rw[jT,if_neg hn]
  ·split
   ·rw[jT,if_neg hn]
   ·rfl
def okS (al n:Int):Prop:=al≤n∧n<512
instance (a b:Int):Decidable (okS a b):=inferInstanceAs (Decidable (_∧_))
theorem GH {al:Int} {v:ak}:(!(sU al v))=true↔okS al v.slot:=by
 unfold sU okS;simp
theorem PT {α:Type} {P:List α→Prop} (h0:P []) (h1:∀l a,P l→P (l++[a])) (l:List α):P l:=by
 have:∀l:List α,P l.reverse:=by
  intro l
  induction l with
  |nil=>exact h0
  |cons a l ih=>rw[List.reverse_cons];exact h1 _ _ ih
 have:=this l.reverse
 rwa [List.reverse_reverse]at this
theorem Ci {l:List (List ak)} (hl:∀x∈l,∀v∈x,vV v.slot) {v:ak}:v∈ey l↔ew (gm l.flatten) v.slot=some v:=by
 have hk:=(l7 (l:=l.flatten) (fun v hv=>by obtain⟨x,hx,hv⟩:=List.mem_flatten.1 hv;exact hl x hx v hv)).1;unfold ey;rw[jn hk.mv,o8 hk.mv.nd]
theorem GI {l:List (List ak)} (hl:∀x∈l,∀v∈x,vV v.slot):SS (ey l):=
 ux (l7 (l:=l.flatten) (fun v hv=>by obtain⟨x,hx,hv⟩:=List.mem_flatten.1 hv;exact hl x hx v hv)).1.mv
def ads (p:Prp):Int×cA×Nat:=(p.1,p.2.1,bI 0 p.2.2)
theorem GJ {x:aE} (h:ee x) (hn:0≤x.bQ):∀m:Nat,(iY x m).dT=x.dT++(List.range m).map fun(k:Nat)=>(x.bQ+k,aH,0)
 |0=>by simp[iY]
 |m+1=>by
  have ih:=GJ h hn m;have ho:=h.iY hn m;have hx:=l9 x m;have:(iY x m).bQ∉aQ (iY x m).dT:=fun hm=>by have:=ho.l6 _ hm;omega
  show ib (iY x m).dT (iY x m).bQ (aH,0)=_;rw[l8 this,ih,hx,List.range_succ,List.map_append,List.append_assoc];rfl
theorem Cj (x:aE):∀m,iY x m={x with dT:=(iY x m).dT,bQ:=(iY x m).bQ}
 |0=>rfl
 |m+1=>by
  have:=Cj x m;show iu (iY x m) aH=_;rw[this];rfl
structure Ta (x:aE) (aM:List Int) (fk:List (List ak)) (L:List Prp) (fl:Bool):Prop where
 mm:m5 x.ae
 me:1≤x.me∧x.me≤x.ae
 b:0≤x.b∧x.b≤18446744073709551615
 al:0≤x.al∧x.al≤512
 bQ:x.al≤x.bQ∧x.bQ≤512
 cm:fj x
 op:ee x
 wk:aM=aQ x.aV
 vl:fk.length=aM.length
 agj:∀w∈aM,1≤w∧w≤x.ae
 cz:x.aV=(aM.zip fk).map fun p=>(p.1,sV x.al p.2)
 v40:∀l∈fk,l.length≤600∧∀v∈l,vV v.slot
 ol:x.dT=L.map ads
 ris:(aQ x.dT).Pairwise (· <·)
 wl:∀p∈L,(∀y∈p.2.2,m5 y)∧p.2.2.Nodup
 s1:x.st=1→x.bQ=x.al∧L=[]∧fl=true
theorem Ta.look {x:aE} {aM:List Int} {fk:List (List ak)} {L:List Prp} {fl:Bool} (h:Ta x aM fk L fl) {p:Prp} (hp:p∈L):bL x.dT p.1=some (p.2.1,bI 0 p.2.2):=by
 rw[bX h.op.nd,h.ol];exact List.mem_map.2 ⟨p,hp,rfl⟩
theorem jo (n b:Int) (c:cA):ao (.of n b c)=c:=rfl
theorem Ta.len {x:aE} {aM:List Int} {fk:List (List ak)} {L:List Prp} {fl:Bool} (h:Ta x aM fk L fl):x.dT.length=L.length:=by rw[h.ol,List.length_map]
abbrev Acp:=Int×List (Int×ak)
@[reducible] def aai (p:aE×Bool):List TV:=match p.2 with
 |true=>[.s (.int .i64 p.1.me),.s (.int .i64 p.1.ae),.s (.int .i64 p.1.st),.s (.int .u64 p.1.b),.s (.int .i64 p.1.al),.s (.int .i64 p.1.bQ),.own (iQ p.1),.own (kB p.1)]
 |false=>[.s (.int .i64 p.1.me),.s (.int .i64 p.1.ae),.s (.int .i64 0),.s (.int .u64 0),.s (.int .i64 0),.s (.int .i64 0),.s (.map none),.s (.map none)]
@[reducible] def iR (p:aE×Bool):TO:=.cells (aai p)
@[reducible] def GK (q:Acp):TO:=.cells [.s (.int .u64 q.1),.own (uv q.2)]
def PX (p:aE×Bool):Prop:=p.2=false→∃me ms,p.1=nE me ms
theorem GL (p:aE×Bool) (hp:PX p) (b aM:Int) (vs:List ak) (hc:fj p.1) (ho:ee p.1) (hm:m5 p.1.ae) (hl:vs.length≤600) (hv:∀v∈vs,vV v.slot) (hn:0≤p.1.bQ∧p.1.bQ≤512):
 VC E0 97 1 [.ptr 0 0,.s (.int .u64 b),.s (.int .i64 aM),c6 vs] [(0,iR p)] (RR (.dk [c6 (bY p.1 b aM vs).2.1,.s (.bool (bY p.1 b aM vs).2.2)]) 1 [(0,iR ((bY p.1 b aM vs).1,p.2))]):=by
 obtain⟨x,f⟩:=p;cases f with
 |false=>
  obtain⟨me,ms,rfl⟩:=hp rfl;have e:bY (nE me ms) b aM vs=(nE me ms,[],false):=by unfold bY;rw[if_neg fun h=>absurd (show(0:Int)=1 from h.1.1) (by decide)]
  dsimp only
  rw[e];exact GD me ms b aM vs
 |true=>
  refine VC.told (R:=RR (.dk [c6 (bY x b aM vs).2.1,.s (.bool (bY x b aM vs).2.2)]) 6 (rA (bY x b aM vs).1)) (VC.lY (m0:=0) rfl ?_) ?_
  ·show jE false (VC E0) _ _ [(1,iQ x),(2,kB x),(0,kT x 1 2)] 3 _;refine⟨[],[some 0,some 1,some 2],_,_,_,_,I9 x b aM vs hc ho hm hl hv hn,t3,?_⟩;rintro r o' c' ⟨rfl,rfl,rfl⟩;exact⟨rfl,rfl,rfl⟩
  ·rintro r o' c' ⟨rfl,rfl,rfl⟩;exact⟨[],[some 0],_,_,_,t3,rfl,rfl,rfl⟩
theorem GM (p:aE×Bool) (hp:PX p) (c:cA) (ho:ee p.1) (hn:0≤p.1.bQ∧p.1.bQ≤512):
 VC E0 105 1 [.ptr 0 0,Ky c] [(0,iR p)] (RR (.dk [.agg (eZ (aD p.1 c).2.1),.s (.int .i64 (aD p.1 c).2.2)]) 1 [(0,iR ((aD p.1 c).1,p.2))]):=by
 obtain⟨x,f⟩:=p;cases f with
 |false=>
  obtain⟨me,ms,rfl⟩:=hp rfl;have e:aD (nE me ms) c=(nE me ms,dX,12):=by unfold aD;rw[if_pos (show(0:Int)≠2 by decide)]
  dsimp only
  rw[e];exact GF me ms c
 |true=>
  have gQ:=Ja x c ho ⟨hn.1,by have:=hn.2;dsimp only at this;omega⟩;refine VC.told (R:=RR (.dk [.agg (eZ (aD x c).2.1),.s (.int .i64 (aD x c).2.2)]) 6 (rA (aD x c).1)) (VC.lY (m0:=0) rfl ?_) ?_
  ·show jE false (VC E0) _ _ [(1,iQ x),(2,kB x),(0,kT x 1 2)] 3 _;refine⟨[],[some 0,some 1,some 2],_,_,_,_,gQ,t3,?_⟩;rintro r o' c' ⟨rfl,rfl,rfl⟩;exact⟨rfl,rfl,rfl⟩
  ·rintro r o' c' ⟨rfl,rfl,rfl⟩;exact⟨[],[some 0],_,_,_,t3,rfl,rfl,rfl⟩
theorem D2 (p:aE×Bool) (hp:PX p) (b slot aM:Int) (hm:m5 p.1.ae) (lz:∀e∈p.1.dT,rM e.2.2) (AG:(aQ p.1.dT).Nodup):
 VC E0 44 1 [.ptr 0 0,.s (.int .u64 b),.s (.int .i64 slot),.s (.int .i64 aM)] [(0,iR p)] (RR (.dk [.agg (eZ (ax p.1 b slot aM).2.1),.s (.bool (ax p.1 b slot aM).2.2)]) 1 [(0,iR ((ax p.1 b slot aM).1,p.2))]):=by
 obtain⟨x,f⟩:=p;cases f with
 |false=>
  obtain⟨me,ms,rfl⟩:=hp rfl;have e:ax (nE me ms) b slot aM=(nE me ms,dX,false):=by unfold ax;rw[if_neg fun h=>absurd (show(0:Int)=2 from h.1.1) (by decide)]
  dsimp only
  rw[e];exact D0 me ms b slot aM
 |true=>
  have gQ:=GC x b slot aM hm lz AG;refine VC.told (R:=RR (.dk [.agg (eZ (ax x b slot aM).2.1),.s (.bool (ax x b slot aM).2.2)]) 6 (rA (ax x b slot aM).1)) (VC.lY (m0:=0) rfl ?_) ?_
  ·show jE false (VC E0) _ _ [(1,iQ x),(2,kB x),(0,kT x 1 2)] 3 _;refine⟨[],[some 0,some 1,some 2],_,_,_,_,gQ,t3,?_⟩;rintro r o' c' ⟨rfl,rfl,rfl⟩;exact⟨rfl,rfl,rfl⟩
  ·rintro r o' c' ⟨rfl,rfl,rfl⟩;exact⟨[],[some 0],_,_,_,t3,rfl,rfl,rfl⟩
theorem mg (p:aE×Bool) (hp:PX p) (b:Int):
 VC E0 48 1 [.ptr 0 0,.s (.int .u64 b)] [(0,iR p)] (RR (.s (.bool (cP p.1 b).2)) 1 [(0,iR ((cP p.1 b).1,p.2))]):=by
 obtain⟨x,f⟩:=p;cases f with
 |false=>
  obtain⟨me,ms,rfl⟩:=hp rfl;have e:cP (nE me ms) b=(nE me ms,false):=by unfold cP;rw[if_pos (.inl rfl)]
  dsimp only
  rw[e];exact Jd me ms b
 |true=>
  have gQ:=Mi x b;refine VC.told (R:=RR (.s (.bool (cP x b).2)) 6 (rA (cP x b).1)) (VC.lY (m0:=0) rfl ?_) ?_
  ·show jE false (VC E0) _ _ [(1,iQ x),(2,kB x),(0,kT x 1 2)] 3 _;refine⟨[],[some 0,some 1,some 2],_,_,_,_,gQ,t3,?_⟩;rintro r o' c' ⟨rfl,rfl,rfl⟩;exact⟨rfl,rfl,rfl⟩
  ·rintro r o' c' ⟨rfl,rfl,rfl⟩;exact⟨[],[some 0],_,_,_,t3,rfl,rfl,rfl⟩
def nA (p:aE×Bool) (above al:Int):aE×Bool:=if(aU p.1 above al).2=0 then(ma p.1.me p.1.ae (aU p.1 above al).1 al,true)else p
theorem Cl (p:aE×Bool) (hp:PX p) (above al:Int) (ha:0≤above∧above≤18446744073709551615) (hb:0≤p.1.b∧p.1.b≤18446744073709551615) (hm:m5 p.1.me):
 VC E0 59 1 [.ptr 0 0,.s (.int .u64 above),.s (.int .i64 al)] [(0,iR p)] (RR (.dk [.s (.int .u64 (aU p.1 above al).1),.s (.int .i64 (aU p.1 above al).2)]) 1 [(0,iR (nA p above al))]):=by
 obtain⟨x,f⟩:=p;unfold nA;cases f with
 |false=>
  obtain⟨me,ms,rfl⟩:=hp rfl;refine VC.told (Jc me ms above al ha hm) ?_;rintro r o' c' ⟨rfl,⟨he,rfl,rfl⟩|⟨he,rfl,rfl⟩⟩
  ·dsimp only
   rw[if_neg he];exact⟨[],[some 0],_,_,_,t3,rfl,rfl,rfl⟩
  ·dsimp only
   rw[if_pos he];exact⟨[],[some 0],_,_,_,t3,rfl,rfl,rfl⟩
 |true=>
  by_cases he:(aU x above al).2=0
  ·refine VC.told (R:=fun r o c=>r= .dk [.s (.int .u64 (aU x above al).1),.s (.int .i64 (aU x above al).2)]∧c=8∧o=[(0,kT (ma x.me x.ae (aU x above al).1 al) 6 7),(6,iQ (ma x.me x.ae (aU x above al).1 al)),(7,kB (ma x.me x.ae (aU x above al).1 al))]) (VC.lY (m0:=0) rfl ?_) ?_
   ·show jE false (VC E0) _ _ [(1,iQ x),(2,kB x),(0,kT x 1 2)] 3 _;refine⟨[],[some 0,some 1,some 2],_,_,_,_,Ch x above al ha hb hm,t3,?_⟩;rintro r o' c' ⟨rfl,⟨vo,rfl,rfl⟩|⟨vo,rfl,rfl⟩⟩
    ·exact absurd he vo
    ·exact⟨rfl,rfl,rfl⟩
   ·rintro r o' c' ⟨rfl,rfl,rfl⟩;dsimp only
    rw[if_pos he];exact⟨[],[some 0],_,_,_,t3,rfl,rfl,rfl⟩
  ·refine VC.told (R:=RR (.dk [.s (.int .u64 (aU x above al).1),.s (.int .i64 (aU x above al).2)]) 6 (rA x)) (VC.lY (m0:=0) rfl ?_) ?_
   ·show jE false (VC E0) _ _ [(1,iQ x),(2,kB x),(0,kT x 1 2)] 3 _;refine⟨[],[some 0,some 1,some 2],_,_,_,_,Ch x above al ha hb hm,t3,?_⟩;rintro r o' c' ⟨rfl,⟨vo,rfl,rfl⟩|⟨vo,rfl,rfl⟩⟩
    ·exact⟨rfl,rfl,rfl⟩
    ·exact absurd vo he
   ·rintro r o' c' ⟨rfl,rfl,rfl⟩;dsimp only
    rw[if_neg he];exact⟨[],[some 0],_,_,_,t3,rfl,rfl,rfl⟩
theorem GN (q:Acp) (b al:Int) (fG:lW (q.2.map (·.1))) (fT:q.2.length<1000000):
 VC E0 94 1 [.ptr 0 0,.s (.int .u64 b),.s (.int .i64 al)] [(0,GK q)] (RR (.dk [.tk 1,.s (.int .i64 (c5 q.1 b q.2 al).2.2)]) 2 [(0,GK ((c5 q.1 b q.2 al).1,q.2)),(1,arV (c5 q.1 b q.2 al).2.1)]):=by
 refine VC.told (R:=fun r o c=>r= .dk [.tk 4,.s (.int .i64 (c5 q.1 b q.2 al).2.2)]∧c=5∧o=[(4,arV (c5 q.1 b q.2 al).2.1),(0,zI (c5 q.1 b q.2 al).1 1),(1,uv q.2)]) (VC.lY (m0:=0) rfl ?_) ?_
 ·show jE false (VC E0) _ _ [(1,uv q.2),(0,zI q.1 1)] 2 _;refine⟨[],[some 0,some 1],_,_,_,_,SX q.1 b q.2 al fG fT,t3,?_⟩;rintro r o' c' ⟨rfl,rfl,rfl⟩;exact⟨rfl,rfl,rfl⟩
 ·rintro r o' c' ⟨rfl,rfl,rfl⟩;exact⟨[],[some 0,some 4],_,_,_,t3,rfl,rfl,rfl⟩
theorem Jf (q:Acp) (b n:Int) (c:cA):
 VC E0 96 1 [.ptr 0 0,.s (.int .u64 b),.s (.int .i64 n),Ky c] [(0,GK q)] (RR (.s (.int .i64 (eN q.1 q.2 b n c).2.2)) 1 [(0,GK ((eN q.1 q.2 b n c).1,(eN q.1 q.2 b n c).2.1))]):=by
 refine VC.told (R:=fun r o c'=>r= .s (.int .i64 (eN q.1 q.2 b n c).2.2)∧c'=4∧o=[(0,zI (eN q.1 q.2 b n c).1 1),(1,uv (eN q.1 q.2 b n c).2.1)]) (VC.lY (m0:=0) rfl ?_) ?_
 ·show jE false (VC E0) _ _ [(1,uv q.2),(0,zI q.1 1)] 2 _;refine⟨[],[some 0,some 1],_,_,_,_,Md q.1 q.2 b n c,t3,?_⟩;rintro r o' c' ⟨rfl,rfl,rfl⟩;exact⟨rfl,rfl,rfl⟩
 ·rintro r o' c' ⟨rfl,rfl,rfl⟩;exact⟨[],[some 0],_,_,_,t3,rfl,rfl,rfl⟩
theorem Cm (p:aE×Bool) (hp:PX p):VC E0 25 1 [.ptr 0 0] [(0,iR p)] (RR (.s (.int .i64 p.1.st)) 1 [(0,iR p)]):=by
 obtain⟨x,f⟩:=p;cases f with
 |false=>
  obtain⟨me,ms,rfl⟩:=hp rfl;refine en L0 Tryz.f25 ?_;exact⟨[],[some 0],_,_,_,t3,rfl,rfl,rfl⟩
 |true=>
  refine en L0 Tryz.f25 ?_;exact⟨[],[some 0],_,_,_,t3,rfl,rfl,rfl⟩
theorem zT (p:aE×Bool) (hp:PX p):VC E0 28 1 [.ptr 0 0] [(0,iR p)] (RR (.s (.int .u64 p.1.b)) 1 [(0,iR p)]):=by
 obtain⟨x,f⟩:=p;cases f with
 |false=>
  obtain⟨me,ms,rfl⟩:=hp rfl;refine en L0 Tryz.f28 ?_;exact⟨[],[some 0],_,_,_,t3,rfl,rfl,rfl⟩
 |true=>
  refine en L0 Tryz.f28 ?_;exact⟨[],[some 0],_,_,_,t3,rfl,rfl,rfl⟩
theorem PU (p:aE×Bool) (hp:PX p):VC E0 29 1 [.ptr 0 0] [(0,iR p)] (RR (.s (.int .i64 p.1.al)) 1 [(0,iR p)]):=by
 obtain⟨x,f⟩:=p;cases f with
 |false=>
  obtain⟨me,ms,rfl⟩:=hp rfl;refine en L0 Tryz.f29 ?_;exact⟨[],[some 0],_,_,_,t3,rfl,rfl,rfl⟩
 |true=>
  refine en L0 Tryz.f29 ?_;exact⟨[],[some 0],_,_,_,t3,rfl,rfl,rfl⟩
theorem gW (q:Acp):VC E0 60 1 [.ptr 0 0] [(0,GK q)] (RR (.s (.int .u64 q.1)) 1 [(0,GK q)]):=by
 refine en L0 Tryz.f60 ?_;exact⟨[],[some 0],_,_,_,t3,rfl,rfl,rfl⟩
structure CF where
 chain:Int
 aq:Int
 nodes:List Int
 fresh:Bool
 join:Int
def aF (c:CF):List TV:=[.s (.int .i64 c.chain),.s (.int .u64 c.aq),.sl 1 (c.nodes.map aR) false,.s (.bool c.fresh),.s (.int .i64 c.join)]
theorem Mk (l:List Int) (x:Int) (hl:l.length<1000000):VC E0 147 0 [.sl 1 (l.map aR) false,.s (.int .i64 x)] []
 (fun r o c=>∃i:Int,r= .s (.int .i64 i)∧(0≤i↔x∈l)∧c=0∧o=[]):=by
 refine en L0 Tryz.f147 ?_;refine⟨fun k f o c=>∃j:Nat,j≤l.length∧k=l.length - j∧x∉l.take j∧c=0∧f=[(0,.sl 1 (l.map aR) false),(1,.s (.int .i64 x)),(7,.s (.int .i64 l.length)),(8,.s (.int .i64 j))]∧o=[],⟨l.length,?_⟩,?_⟩
 ·refine⟨[],[],_,_,_,tx ?_,⟨0,Nat.zero_le _,rfl,by simp,rfl,rfl,rfl⟩⟩;exact Lz.int (by rw[List.length_map])
 ·rintro k f1 o1 c1 ⟨j,hj,rfl,hn,rfl,rfl,rfl⟩;refine wh ?_;refine sp ?_ ?_<;>intro h
  ·have h:j<l.length:=by have:(j:Int)<(l.length:Nat):=h
                         omega
   refine wh ?_;refine eT h ?_;refine wh ?_;refine sp ?_ ?_<;>intro he
   ·have he:x=l[j]:=he;refine wh ?_;exact⟨[],[],_,_,_,t3,_,rfl,⟨fun _=>he▸List.getElem_mem h,fun _=>Int.natCast_nonneg j⟩,rfl,rfl⟩
   ·have he:¬x=l[j]:=he;refine wh ?_;refine⟨l.length - (j+1),?_,om⟩;exact⟨[],[],_,_,_,t3,⟨j+1,h,rfl,(by rw[List.take_succ_eq_append_getElem h];simp only[List.mem_append,List.mem_singleton,not_or];exact⟨hn,he⟩),rfl,rfl,rfl⟩⟩
  ·have Gv:j=l.length:=by have:¬(j:Int)<(l.length:Nat):=h
                          omega
   subst Gv;rw[List.take_length]at hn;refine wh ?_;exact⟨[],[],_,_,_,t3,_,rfl,⟨fun h=>absurd h (by decide),fun h=>absurd h hn⟩,rfl,rfl⟩
theorem jq (l:List Int) (x:Int) (hl:l.length<1000000):VC E0 108 0 [.sl 1 (l.map aR) false,.s (.int .i64 x)] [] (RR (.s (.bool (decide (x∈l)))) 0 []):=by
 refine en L0 Tryz.f108 ?_;refine⟨[],[],_,_,_,_,Mk l x hl,t3,?_⟩;rintro r o' c' ⟨i,rfl,hi,rfl,rfl⟩;refine wh ?_;refine sp ?_ ?_<;>intro xI
 ·have xI:i≥0:=xI;refine wh ?_;refine⟨[],[],_,_,_,tx ?_,rfl,rfl,rfl⟩;exact Lz.of (ah (Eq.symm (decide_eq_true (hi.1 xI))))
 ·have xI:¬i≥0:=xI;refine wh ?_;refine⟨[],[],_,_,_,tx ?_,rfl,rfl,rfl⟩;exact Lz.of (ah (Eq.symm (decide_eq_false (mt hi.2 xI))))
theorem iS (l:List Int) (hl:l.length<1000000):VC E0 68 0 [.sl 1 (l.map aR) false] [] (RR (.tk 0) 1 [(0,.arr 1 true (l.map aR))]):=by
 refine en L0 Tryz.f68 ?_;refine⟨fun h=>?_,?_⟩
 ·have h:l=[]:=by simpa using h
  subst h;refine wh ?_;exact⟨[],[none],_,_,_,t3,rfl,rfl,rfl⟩
 ·refine wh ?_;refine⟨by simp;omega,?_⟩;refine wh ?_;exact⟨[],[some 1],_,_,_,t3,rfl,rfl,rfl⟩
def UN (n:Int):Bool:=decide (1≤n∧n≤24)
theorem Tb (n:Int):VC E0 111 0 [.s (.int .i64 n)] [] (RR (.s (.bool (UN n))) 0 []):=by
 refine en L0 Tryz.f111 ?_;refine sp ?_ ?_<;>intro h1
 ·have h1:n≥1:=h1;refine wh ?_;refine sp ?_ ?_<;>intro h2
  ·have h2:n≤24:=h2;refine wh ?_;refine⟨[],[],_,_,_,tx ?_,rfl,rfl,rfl⟩;exact Lz.of (ah (Eq.symm (decide_eq_true ⟨h1,h2⟩)))
  ·have h2:¬n≤24:=h2;refine wh ?_;refine⟨[],[],_,_,_,tx ?_,rfl,rfl,rfl⟩;exact Lz.of (ah (Eq.symm (decide_eq_false fun h=>h2 h.2)))
 ·have h1:¬n≥1:=h1;refine wh ?_;refine⟨[],[],_,_,_,tx ?_,rfl,rfl,rfl⟩;exact Lz.of (ah (Eq.symm (decide_eq_false fun h=>h1 h.1)))
def e8 (l:List Int):Prop:=l.Nodup∧∀n∈l,1≤n∧n≤24
instance (l:List Int):Decidable (e8 l):=inferInstanceAs (Decidable (_∧_))
theorem wW (l:List Int) (n:Int):e8 (l++[n])↔e8 l∧(1≤n∧n≤24)∧n∉l:=by
 unfold e8;rw[List.nodup_append];constructor
 ·rintro⟨⟨h1,_,h2⟩,h3⟩;exact⟨⟨h1,fun m hm=>h3 m (List.mem_append_left _ hm)⟩,h3 n (by simp),fun hm=>h2 n hm n (by simp) rfl⟩
 ·rintro⟨⟨h1,h2⟩,h3,h4⟩;refine⟨⟨h1,by simp,fun a ha b hb=>?_⟩,fun m hm=>?_⟩
  ·simp at hb;subst hb;rintro rfl;exact h4 ha
  ·rcases List.mem_append.1 hm with q|q
   ·exact h2 m q
   ·simp at q;subst q;exact h3
theorem kC {l:List Int} {i:Nat} (h:e8 l):e8 (l.take i):=⟨(List.take_sublist i l).nodup h.1,fun n hn=>h.2 n (List.mem_of_mem_take hn)⟩
theorem D3 (l:List Int) (hl:l.length<1000000):VC E0 67 0 [.sl 1 (l.map aR) false] [] (RR (.s (.bool (decide (e8 l)))) 0 []):=by
 refine en L0 Tryz.f67 ?_;refine⟨fun k f o c=>∃j:Nat,j≤l.length∧k=l.length - j∧e8 (l.take j)∧c=0∧f=[(0,.sl 1 (l.map aR) false),(5,.sl 1 (l.map aR) false),(6,.s (.int .i64 l.length)),(7,.s (.int .i64 j))]∧o=[],⟨l.length,?_⟩,?_⟩
 ·refine⟨[],[],_,_,_,tx ?_,⟨0,Nat.zero_le _,rfl,⟨by simp,by simp⟩,rfl,rfl,rfl⟩⟩;exact Lz.int (by rw[List.length_map])
 ·rintro k f1 o1 c1 ⟨j,hj,rfl,hn,rfl,rfl,rfl⟩;refine wh ?_;refine sp ?_ ?_<;>intro h
  ·have h:j<l.length:=by have:(j:Int)<(l.length:Nat):=h
                         omega
   refine wh ?_;refine eT h ?_;refine wh ?_;have hs:=wW (l.take j) l[j];rw[←List.take_succ_eq_append_getElem h]at hs;refine⟨[],[],_,_,_,_,Tb l[j],t3,?_⟩;rintro r o' c' ⟨rfl,rfl,rfl⟩;have bm:=True.intro;clear bm;cases hb:UN l[j]
   ·have hb:¬(1≤l[j]∧l[j]≤24):=of_decide_eq_false hb;refine wh ?_;refine⟨[],[],_,_,_,tx ?_,rfl,rfl,rfl⟩;exact Lz.of (ah (Eq.symm (decide_eq_false fun q=>hb (hs.1 (kC q)).2.1)))
   ·have hb:1≤l[j]∧l[j]≤24:=of_decide_eq_true hb;refine wh ?_;refine⟨⟨om,om,by simp;omega⟩,?_⟩;refine wh ?_;refine⟨[],[],_,_,_,_,jq (l.take j) l[j] (by simp;omega),⟨by((repeat' first|exact LF|constructor);all_goals(exact Lz.of (by simp[List.map_take]))),by((repeat' first|exact LF|constructor);all_goals(exact Lz.of (by simp[List.map_take]))),by rfl⟩,?_⟩;rintro r o' c' ⟨rfl,rfl,rfl⟩;refine wh ?_;by_cases hm:l[j]∈l.take j
    ·rw[decide_eq_true hm];refine wh ?_;refine⟨[],[],_,_,_,tx ?_,rfl,rfl,rfl⟩;exact Lz.of (ah (Eq.symm (decide_eq_false fun q=>(hs.1 (kC q)).2.2 hm)))
    ·rw[decide_eq_false hm];refine wh ?_;refine⟨l.length - (j+1),?_,om⟩;exact⟨[],[],_,_,_,t3,⟨j+1,h,rfl,hs.2 ⟨hn,hb,hm⟩,rfl,rfl,rfl⟩⟩
  ·have Gv:j=l.length:=by have:¬(j:Int)<(l.length:Nat):=h
                          omega
   subst Gv;rw[List.take_length]at hn;refine wh ?_;refine⟨[],[],_,_,_,tx ?_,rfl,rfl,rfl⟩;exact Lz.of (ah (Eq.symm (decide_eq_true hn)))
def aG (c:CF):List Int:=c.nodes++(if c.join=0 then []else [c.join])
theorem eA (c:CF):(aG c).length≤c.nodes.length+1:=by unfold aG;split<;>simp
theorem mh (c:CF) (hl:c.nodes.length<100000):VC E0 66 0 [.agg (aF c)] [] (RR (.tk 0) 1 [(0,.arr 1 true ((aG c).map aR))]):=by
 refine en L0 Tryz.f66 ?_;refine sp ?_ ?_<;>intro hj
 ·have hj:c.join=0:=hj;refine wh ?_;refine⟨[],[],_,_,_,_,iS c.nodes om,t3,cw ?_⟩;refine⟨[],[some 1],_,_,_,tx ?_,rfl,rfl,rfl⟩;exact Lz.of (by unfold aG;simp[hj])
 ·have hj:¬c.join=0:=hj;refine wh ?_;refine⟨[],[],_,_,_,_,iS c.nodes om,t3,cw ?_⟩;refine⟨by simp;omega,?_⟩;refine wh ?_;refine⟨[],[some 3],_,_,_,tx ?_,rfl,rfl,rfl⟩;exact Lz.of (by unfold aG;simp[hj])
theorem sW (l:List Int) (hl:l.length<1000000):VC E0 63 0 [.sl 1 (l.map aR) false] [] (RR (.s (.bool (decide (e8 l)))) 0 []):=by
 refine en L0 Tryz.f63 ?_;refine⟨fun k f o c=>∃j:Nat,j≤l.length∧k=l.length - j∧e8 (l.take j)∧c=0∧f=[(0,.sl 1 (l.map aR) false),(3,.s (.int .i64 j))]∧o=[],⟨l.length,?_⟩,?_⟩
 ·exact⟨[],[],_,_,_,t3,⟨0,Nat.zero_le _,rfl,⟨by simp,by simp⟩,rfl,rfl,rfl⟩⟩
 ·rintro k f1 o1 c1 ⟨j,hj,rfl,hn,rfl,rfl,rfl⟩;refine wh ?_;refine sp ?_ ?_<;>intro h
  ·have h:j<l.length:=dZ.1 h;have hs:=wW (l.take j) l[j];rw[←List.take_succ_eq_append_getElem h]at hs;refine wh ?_;refine eT h ?_;refine wh ?_;refine sp ?_ ?_<;>intro h1
   ·have h1:l[j]<1:=h1;refine wh ?_;refine⟨[],[],_,_,_,tx ?_,rfl,rfl,rfl⟩;exact Lz.of (ah (Eq.symm (decide_eq_false fun q=>by have:=(hs.1 (kC q)).2.1;omega)))
   ·have h1:¬l[j]<1:=h1;refine wh ?_;refine eT h ?_;refine wh ?_;refine sp ?_ ?_<;>intro h2
    ·have h2:l[j]>24:=h2;refine wh ?_;refine⟨[],[],_,_,_,tx ?_,rfl,rfl,rfl⟩;exact Lz.of (ah (Eq.symm (decide_eq_false fun q=>by have:=(hs.1 (kC q)).2.1;omega)))
    ·have h2:¬l[j]>24:=h2;refine wh ?_;refine⟨⟨om,om,by simp;omega⟩,?_⟩;refine wh ?_;refine eT h ?_;refine wh ?_;refine⟨[],[],_,_,_,_,PQ (l.take j) l[j] (by simp;omega),⟨by((repeat' first|exact LF|constructor);all_goals(exact Lz.of (by simp[List.map_take]))),by((repeat' first|exact LF|constructor);all_goals(exact Lz.of (by simp[List.map_take]))),by rfl⟩,?_⟩;rintro r o' c' ⟨rfl,rfl,rfl⟩;refine wh ?_;by_cases hm:l[j]∈l.take j
     ·rw[decide_eq_true hm];refine wh ?_;refine⟨[],[],_,_,_,tx ?_,rfl,rfl,rfl⟩;exact Lz.of (ah (Eq.symm (decide_eq_false fun q=>(hs.1 (kC q)).2.2 hm)))
     ·rw[decide_eq_false hm];refine wh ?_;refine⟨l.length - (j+1),?_,om⟩;exact⟨[],[],_,_,_,t3,⟨j+1,h,rfl,hs.2 ⟨hn,om,hm⟩,rfl,rfl,rfl⟩⟩
  ·have Gv:j=l.length:=by have:=mt dZ.2 h
                          omega
   subst Gv;rw[List.take_length]at hn;refine wh ?_;refine⟨[],[],_,_,_,tx ?_,rfl,rfl,rfl⟩;exact Lz.of (ah (Eq.symm (decide_eq_true hn)))
theorem D4 (c:CF) (hl:c.nodes.length<100000):VC E0 62 0 [.agg (aF c)] [] (RR (.tk 0) 1 [(0,.arr 1 true ((aG c).map aR))]):=by
 refine en L0 Tryz.f62 ?_;refine⟨by simp;omega,?_⟩;refine wh ?_;refine sp ?_ ?_<;>intro hj
 ·have hj:¬c.join=0:=hj;refine wh ?_;refine⟨by simp;omega,?_⟩;refine wh ?_;refine⟨[],[some 3],_,_,_,tx ?_,rfl,rfl,rfl⟩;exact Lz.of (by unfold aG;simp[hj])
 ·have hj:c.join=0:=Classical.not_not.1 hj;refine wh ?_;refine⟨[],[some 1],_,_,_,tx ?_,rfl,rfl,rfl⟩;exact Lz.of (by unfold aG;simp[hj])
def iH (c:CF):Prop:=(0≤c.chain∧c.chain<4)∧1≤c.aq∧(1≤c.nodes.length∧c.nodes.length≤5)∧(c.fresh=true→2≤c.nodes.length∧c.join=0)∧e8 (aG c)
instance (c:CF):Decidable (iH c):=inferInstanceAs (Decidable (_∧_))
theorem PV (c:CF):VC E0 65 0 [.agg (aF c)] [] (RR (.s (.bool (decide (iH c)))) 0 []):=by
 have pF:=eA c;refine en L0 Tryz.f65 ?_;refine sp ?_ ?_<;>intro h1
 ·have h1:c.chain<0:=h1;refine wh ?_;refine⟨[],[],_,_,_,tx ?_,rfl,rfl,rfl⟩;exact Lz.of (ah (Eq.symm (decide_eq_false fun q=>by obtain⟨⟨_,_⟩,_,⟨_,_⟩,_,_⟩:=q;omega)))
 have h1:¬c.chain<0:=h1;refine wh ?_;refine sp ?_ ?_<;>intro h2
 ·have h2:c.chain≥4:=h2;refine wh ?_;refine⟨[],[],_,_,_,tx ?_,rfl,rfl,rfl⟩;exact Lz.of (ah (Eq.symm (decide_eq_false fun q=>by obtain⟨⟨_,_⟩,_,⟨_,_⟩,_,_⟩:=q;omega)))
 have h2:¬c.chain≥4:=h2;refine wh ?_;refine sp ?_ ?_<;>intro h3
 ·have h3:c.aq<1:=h3;refine wh ?_;refine⟨[],[],_,_,_,tx ?_,rfl,rfl,rfl⟩;exact Lz.of (ah (Eq.symm (decide_eq_false fun q=>by obtain⟨⟨_,_⟩,_,⟨_,_⟩,_,_⟩:=q;omega)))
 have h3:¬c.aq<1:=h3;refine wh ?_;refine sp ?_ ?_<;>intro h4
 ·have h4:(((c.nodes.map aR).length:Nat):Int)<1:=h4;rw[List.length_map]at h4;refine wh ?_;refine⟨[],[],_,_,_,tx ?_,rfl,rfl,rfl⟩;exact Lz.of (ah (Eq.symm (decide_eq_false fun q=>by obtain⟨⟨_,_⟩,_,⟨_,_⟩,_,_⟩:=q;omega)))
 have h4:¬(((c.nodes.map aR).length:Nat):Int)<1:=h4;rw[List.length_map]at h4;refine wh ?_;refine sp ?_ ?_<;>intro h5
 ·have h5:(((c.nodes.map aR).length:Nat):Int)>5:=h5;rw[List.length_map]at h5;refine wh ?_;refine⟨[],[],_,_,_,tx ?_,rfl,rfl,rfl⟩;exact Lz.of (ah (Eq.symm (decide_eq_false fun q=>by obtain⟨⟨_,_⟩,_,⟨_,_⟩,_,_⟩:=q;omega)))
 have h5:¬(((c.nodes.map aR).length:Nat):Int)>5:=h5;rw[List.length_map]at h5;refine wh ?_;cases hf:c.fresh
 ·refine wh ?_;refine⟨[],[],_,_,_,_,mh c om,⟨by((repeat' first|exact LF|constructor);all_goals(exact Lz.of (ah hf.symm))),by((repeat' first|exact LF|constructor);all_goals(exact Lz.of (ah hf.symm))),by rfl⟩,?_⟩;rintro r o' c' ⟨rfl,rfl,rfl⟩;refine wh ?_;refine⟨[1],[],_,_,_,_,D3 (aG c) om,t3,cw ?_⟩;refine⟨[],[],_,_,_,tx ?_,rfl,rfl,rfl⟩;exact Lz.of (ah (decide_eq_decide.2 ⟨fun q=>⟨⟨om,om⟩,om,⟨om,om⟩,(fun e=>absurd (hf.symm.trans e) (by decide)),q⟩,fun q=>q.2.2.2.2⟩))
 ·refine wh ?_;refine sp ?_ ?_<;>intro h6
  ·have h6:(((c.nodes.map aR).length:Nat):Int)<2:=h6;rw[List.length_map]at h6;refine wh ?_;refine⟨[],[],_,_,_,tx ?_,rfl,rfl,rfl⟩;exact Lz.of (ah (Eq.symm (decide_eq_false fun q=>by have:=q.2.2.2.1 hf;omega)))
  have h6:¬(((c.nodes.map aR).length:Nat):Int)<2:=h6;rw[List.length_map]at h6;refine wh ?_;refine sp ?_ ?_<;>intro h7
  ·have h7:c.join≠0:=h7;refine wh ?_;refine⟨[],[],_,_,_,tx ?_,rfl,rfl,rfl⟩;exact Lz.of (ah (Eq.symm (decide_eq_false fun q=>by have:=q.2.2.2.1 hf;omega)))
  have h7:c.join=0:=Classical.not_not.1 h7;refine wh ?_;refine⟨[],[],_,_,_,_,mh c om,⟨by((repeat' first|exact LF|constructor);all_goals(exact Lz.of (ah hf.symm))),by((repeat' first|exact LF|constructor);all_goals(exact Lz.of (ah hf.symm))),by rfl⟩,?_⟩;rintro r o' c' ⟨rfl,rfl,rfl⟩;refine wh ?_;refine⟨[1],[],_,_,_,_,D3 (aG c) om,t3,cw ?_⟩;refine⟨[],[],_,_,_,tx ?_,rfl,rfl,rfl⟩;exact Lz.of (ah (decide_eq_decide.2 ⟨fun q=>⟨⟨om,om⟩,om,⟨om,om⟩,(fun e=>⟨om,h7⟩),q⟩,fun q=>q.2.2.2.2⟩))
theorem GO (c:CF) (he:0≤c.aq):VC E0 61 0 [.agg (aF c)] [] (RR (.s (.bool (decide (iH c)))) 0 []):=by
 have pF:=eA c;refine en L0 Tryz.f61 ?_;refine sp ?_ ?_<;>intro h1
 ·have h1:c.chain<0:=h1;refine wh ?_;refine⟨[],[],_,_,_,tx ?_,rfl,rfl,rfl⟩;exact Lz.of (ah (Eq.symm (decide_eq_false fun q=>by obtain⟨⟨_,_⟩,_,⟨_,_⟩,_,_⟩:=q;omega)))
 have h1:¬c.chain<0:=h1;refine wh ?_;refine sp ?_ ?_<;>intro h2
 ·have h2:c.chain>3:=h2;refine wh ?_;refine⟨[],[],_,_,_,tx ?_,rfl,rfl,rfl⟩;exact Lz.of (ah (Eq.symm (decide_eq_false fun q=>by obtain⟨⟨_,_⟩,_,⟨_,_⟩,_,_⟩:=q;omega)))
 have h2:¬c.chain>3:=h2;refine wh ?_;refine sp ?_ ?_<;>intro h3
 ·have h3:c.aq=0:=h3;refine wh ?_;refine⟨[],[],_,_,_,tx ?_,rfl,rfl,rfl⟩;exact Lz.of (ah (Eq.symm (decide_eq_false fun q=>by obtain⟨⟨_,_⟩,_,⟨_,_⟩,_,_⟩:=q;omega)))
 have h3:¬c.aq=0:=h3;refine wh ?_;refine sp ?_ ?_<;>intro h4
 ·have h4:(((c.nodes.map aR).length:Nat):Int)=0:=h4;rw[List.length_map]at h4;refine wh ?_;refine⟨[],[],_,_,_,tx ?_,rfl,rfl,rfl⟩;exact Lz.of (ah (Eq.symm (decide_eq_false fun q=>by obtain⟨⟨_,_⟩,_,⟨_,_⟩,_,_⟩:=q;omega)))
 have h4:¬(((c.nodes.map aR).length:Nat):Int)=0:=h4;rw[List.length_map]at h4;refine wh ?_;refine sp ?_ ?_<;>intro h5
 ·have h5:(((c.nodes.map aR).length:Nat):Int)>5:=h5;rw[List.length_map]at h5;refine wh ?_;refine⟨[],[],_,_,_,tx ?_,rfl,rfl,rfl⟩;exact Lz.of (ah (Eq.symm (decide_eq_false fun q=>by obtain⟨⟨_,_⟩,_,⟨_,_⟩,_,_⟩:=q;omega)))
 have h5:¬(((c.nodes.map aR).length:Nat):Int)>5:=h5;rw[List.length_map]at h5;refine wh ?_;cases hf:c.fresh
 ·refine wh ?_;refine⟨[],[],_,_,_,_,D4 c om,⟨by((repeat' first|exact LF|constructor);all_goals(exact Lz.of (ah hf.symm))),by((repeat' first|exact LF|constructor);all_goals(exact Lz.of (ah hf.symm))),by rfl⟩,?_⟩;rintro r o' c' ⟨rfl,rfl,rfl⟩;refine wh ?_;refine⟨[1],[],_,_,_,_,sW (aG c) om,t3,cw ?_⟩;refine⟨[],[],_,_,_,tx ?_,rfl,rfl,rfl⟩;exact Lz.of (ah (decide_eq_decide.2 ⟨fun q=>⟨⟨om,om⟩,om,⟨om,om⟩,(fun e=>absurd (hf.symm.trans e) (by decide)),q⟩,fun q=>q.2.2.2.2⟩))
 ·refine wh ?_;refine sp ?_ ?_<;>intro h6
  ·have h6:(((c.nodes.map aR).length:Nat):Int)=1:=h6;rw[List.length_map]at h6;refine wh ?_;refine⟨[],[],_,_,_,tx ?_,rfl,rfl,rfl⟩;exact Lz.of (ah (Eq.symm (decide_eq_false fun q=>by have:=q.2.2.2.1 hf;omega)))
  have h6:¬(((c.nodes.map aR).length:Nat):Int)=1:=h6;rw[List.length_map]at h6;refine wh ?_;refine sp ?_ ?_<;>intro h7
  ·have h7:c.join≠0:=h7;refine wh ?_;refine⟨[],[],_,_,_,tx ?_,rfl,rfl,rfl⟩;exact Lz.of (ah (Eq.symm (decide_eq_false fun q=>by have:=q.2.2.2.1 hf;omega)))
  have h7:c.join=0:=Classical.not_not.1 h7;refine wh ?_;refine⟨[],[],_,_,_,_,D4 c om,⟨by((repeat' first|exact LF|constructor);all_goals(exact Lz.of (ah hf.symm))),by((repeat' first|exact LF|constructor);all_goals(exact Lz.of (ah hf.symm))),by rfl⟩,?_⟩;rintro r o' c' ⟨rfl,rfl,rfl⟩;refine wh ?_;refine⟨[1],[],_,_,_,_,sW (aG c) om,t3,cw ?_⟩;refine⟨[],[],_,_,_,tx ?_,rfl,rfl,rfl⟩;exact Lz.of (ah (decide_eq_decide.2 ⟨fun q=>⟨⟨om,om⟩,om,⟨om,om⟩,(fun e=>⟨om,h7⟩),q⟩,fun q=>q.2.2.2.2⟩))
end Go.M
