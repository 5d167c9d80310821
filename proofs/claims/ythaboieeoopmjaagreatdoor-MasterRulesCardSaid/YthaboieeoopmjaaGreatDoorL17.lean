/-
  Part 17 of the library that the proof leans on.
-/
import Derived.Test.YthaboieeoopmjaaGreatDoorL12
import Derived.Test.YthaboieeoopmjaaGreatDoorL15
import Derived.Test.YthaboieeoopmjaaGreatDoorL16
import Derived.Test.YthaboieeoopmjaaGreatDoorL13
namespace Go.M
open Go Go.Proofs
set_option maxRecDepth 100000
set_option maxHeartbeats 2000000
structure aB where
 me:Int
 ah:Int
 st:Int
 b:Int
 ak:Int
 cu:Int
 bk:List (Int×List ai)
 eJ:List (Int×b8×Nat)
def cQ (l:List ai):TV:=.sl 6 (l.map eL) false
def yW (p:b8×Nat):TV:=.agg [.s (.int .i64 p.1.kind),.s (.int .i64 p.1.chain),.s (.int .u64 p.1.aq),.s (.int .i64 p.1.node),.s (.int .u64 p.2)]
@[reducible] def kc (x:aB) (i j:Nat):TO:=.cells [.s (.int .i64 x.me),.s (.int .i64 x.ah),.s (.int .i64 x.st),.s (.int .u64 x.b),.s (.int .i64 x.ak),.s (.int .i64 x.cu),.mp i,.mp j]
@[reducible] def ic (x:aB):TO:=.map (dV .i64) (x.bk.map (j4 .i64 cQ))
@[reducible] def jS (x:aB):TO:=.map (dV .i64) (x.eJ.map (j4 .i64 yW))
@[reducible] def qw (x:aB):Ob:=[(0,kc x 1 2),(1,ic x),(2,jS x)]
@[reducible] def ke (me ah:Int):TO:=.cells [.s (.int .i64 me),.s (.int .i64 ah),.s (.int .i64 0),.s (.int .u64 0),.s (.int .i64 0),.s (.int .i64 0),.s (.map none),.s (.map none)]
theorem Tv (me ah:Int) (h1:m5 ah) (h2:1≤me∧me≤ah):VC E0 14 0 [.s (.int .i64 me),.s (.int .i64 ah)] [] (RR (.c4 [.ptr 0 0,.s (.int .i64 0)]) 1 [(0,ke me ah)]):=by
 unfold m5 at h1;refine en L0 Tryz.f14 ?_;refine sp ?_ ?_<;>intro a1
 ·have a1:ah<1:=a1;omega
 ·refine wh ?_;refine sp ?_ ?_<;>intro a2
  ·have a2:ah>5:=a2;omega
  ·refine wh ?_;refine sp ?_ ?_<;>intro a3
   ·have a3:me<1:=a3;omega
   ·refine wh ?_;refine sp ?_ ?_<;>intro a4
    ·have a4:me>ah:=a4;omega
    ·refine wh ?_;exact⟨[],[some 0],_,_,_,t3,rfl,rfl,rfl⟩
theorem PG (x:aB) (s b:Int):VC E0 87 3 [.ptr 0 0,.s (.int .i64 s),.s (.int .u64 b)] (qw x) (RR (.s (.bool (decide (x.st=s∧x.b=b)))) 3 (qw x)):=by
 refine en L0 Tryz.f87 ?_;refine sp ?_ ?_<;>intro h1
 ·have h1:x.st=s:=h1;refine wh ?_;refine sp ?_ ?_<;>intro h2
  ·have h2:x.b=b:=h2;refine wh ?_;refine⟨[],[some 0,some 1,some 2],_,_,_,tx ?_,rfl,rfl,rfl⟩;exact Lz.of (an (Eq.symm (decide_eq_true ⟨h1,h2⟩)))
  ·have h2:¬x.b=b:=h2;refine wh ?_;refine⟨[],[some 0,some 1,some 2],_,_,_,tx ?_,rfl,rfl,rfl⟩;exact Lz.of (an (Eq.symm (decide_eq_false fun h=>h2 h.2)))
 ·have h1:¬x.st=s:=h1;refine wh ?_;refine⟨[],[some 0,some 1,some 2],_,_,_,tx ?_,rfl,rfl,rfl⟩;exact Lz.of (an (Eq.symm (decide_eq_false fun h=>h1 h.1)))
theorem PH (x:aB) (aO:Int):VC E0 88 3 [.ptr 0 0,.s (.int .i64 aO)] (qw x) (RR (.s (.bool (decide (1≤aO∧aO≤x.ah)))) 3 (qw x)):=by
 refine en L0 Tryz.f88 ?_;refine sp ?_ ?_<;>intro h1
 ·have h1:aO≥1:=h1;refine wh ?_;refine sp ?_ ?_<;>intro h2
  ·have h2:aO≤x.ah:=h2;refine wh ?_;refine⟨[],[some 0,some 1,some 2],_,_,_,tx ?_,rfl,rfl,rfl⟩;exact Lz.of (an (Eq.symm (decide_eq_true ⟨h1,h2⟩)))
  ·have h2:¬aO≤x.ah:=h2;refine wh ?_;refine⟨[],[some 0,some 1,some 2],_,_,_,tx ?_,rfl,rfl,rfl⟩;exact Lz.of (an (Eq.symm (decide_eq_false fun h=>h2 h.2)))
 ·have h1:¬aO≥1:=h1;refine wh ?_;refine⟨[],[some 0,some 1,some 2],_,_,_,tx ?_,rfl,rfl,rfl⟩;exact Lz.of (an (Eq.symm (decide_eq_false fun h=>h1 h.1)))
def gQ (x:aB) (c:b8):aB:={x with eJ:=g5 x.eJ x.cu (c,0),cu:=x.cu+1}
theorem Dn (x:aB) (c:b8) (h: -1000000≤x.cu∧x.cu≤1000000):VC E0 134 3 [.ptr 0 0,Kh c] (qw x) (RR (.s (.int .i64 x.cu)) 3 (qw (gQ x c))):=by
 refine en L0 Tryz.f134 ?_;refine⟨[],[some 0,some 1,some 2],?_⟩
 iterate 3 constructor
 refine⟨⟨?_,?_,?_⟩,rfl,rfl,rfl⟩
 all_goals(repeat' first|exact LF|constructor)
 ·exact Lz.int (IntWalk.i64_in _ om)
 ·exact Lz.of (pJ .i64 yW x.cu (c,0) x.eJ)
def aF:b8:=⟨0,0,0,0⟩
def nj (x:aB) (n:Int):ai:=.of n x.b ((bH x.eJ n).getD (aF,0)).1
theorem tG (x:aB) (n:Int):VC E0 91 3 [.ptr 0 0,.s (.int .i64 n)] (qw x) (RR (.agg (eL (nj x n))) 3 (qw x)):=by
 refine en L0 Tryz.f91 ?_;have hl:=l9 .i64 .i64 yW n x.eJ;have hv:nj x n= .of n x.b ((bH x.eJ n).getD (aF,0)).1:=rfl;cases h:bH x.eJ n with
 |none=>
  rw[h]at hl hv;refine⟨_,hl,?_⟩;refine wh ?_;rw[hv];exact⟨[],[some 0,some 1,some 2],_,_,_,t3,rfl,rfl,rfl⟩
 |some p=>
  rw[h]at hl hv;refine⟨_,hl,?_⟩;refine wh ?_;rw[hv];exact⟨[],[some 0,some 1,some 2],_,_,_,t3,rfl,rfl,rfl⟩
theorem L5 (vs:List ai) (hl:vs.length<1000000):VC E0 123 0 [cQ vs] [] (RR (.tk 0) 1 [(0,.arr 6 true (vs.map eL))]):=by
 refine en L0 Tryz.f123 ?_;refine⟨fun h=>?_,?_⟩
 ·have h:vs=[]:=by simpa using h
  subst h;refine wh ?_;exact⟨[],[none],_,_,_,t3,rfl,rfl,rfl⟩
 ·refine wh ?_;refine⟨by simp;omega,?_⟩;refine wh ?_;exact⟨[],[some 1],_,_,_,t3,rfl,rfl,rfl⟩
def se (ak:Int) (v:ai):Bool:=decide (v.slot<ak∨v.slot≥512)
def yX (ak:Int) (vs:List ai):List ai:=vs.filter fun v=> !(se ak v)
@[reducible] def stC (x:aB):Ob:=[(0,.cells [.ptr 1 0]),(1,kc x 2 3),(2,ic x),(3,jS x)]
@[reducible] def stD (x:aB) (vs:List ai):Ob:=[(0,.arr 6 true (vs.map eL)),(1,.cells [.ptr 2 0]),(2,kc x 3 4),(3,ic x),(4,jS x)]
theorem PI (x:aB) (v:ai):VC E0 124 4 [.agg (eL v),.ptr 0 0] (stC x) (RR (.s (.bool (se x.ak v))) 4 (stC x)):=by
 refine en L0 Tryz.f124 ?_;refine sp ?_ ?_<;>intro h1
 ·have h1:v.slot<x.ak:=h1;refine wh ?_;refine⟨[],[some 0,some 1,some 2,some 3],_,_,_,tx ?_,rfl,rfl,rfl⟩;exact Lz.of (an (Eq.symm (decide_eq_true (.inl h1))))
 ·have h1:¬v.slot<x.ak:=h1;refine wh ?_;refine sp ?_ ?_<;>intro h2
  ·have h2:v.slot≥512:=h2;refine wh ?_;refine⟨[],[some 0,some 1,some 2,some 3],_,_,_,tx ?_,rfl,rfl,rfl⟩;exact Lz.of (an (Eq.symm (decide_eq_true (.inr h2))))
  ·have h2:¬v.slot≥512:=h2;refine wh ?_;refine⟨[],[some 0,some 1,some 2,some 3],_,_,_,tx ?_,rfl,rfl,rfl⟩;exact Lz.of (an (Eq.symm (decide_eq_false fun h=>h.elim h1 h2)))
theorem Tw (x:aB) (vs:List ai) (hl:vs.length<1000000):VC E0 173 5 [.tk 0,.cW 124 [] [.ptr 1 0]] (stD x vs)
 (fun r o c=>∃i:Int,r= .s (.int .i64 i)∧c=5∧o=stD x vs∧((i= -1∧∀v∈vs,se x.ak v=false)∨∃j:Nat,∃h:j<vs.length,i=j∧(∀v∈vs.take j,se x.ak v=false)∧se x.ak vs[j]=true)):=by
 refine en L0 Tryz.f173 ?_;refine⟨fun k f o c=>∃j:Nat,j≤vs.length∧k=vs.length - j∧(∀v∈vs.take j,se x.ak v=false)∧c=5∧f=[(0,.tk 0),(1,.cW 124 [] [.ptr 1 0]),(7,.s (.int .i64 vs.length)),(8,.s (.int .i64 j))]∧o=stD x vs,⟨vs.length,?_⟩,?_⟩
 ·refine⟨[],[some 0,some 1,some 2,some 3,some 4],?_⟩
  iterate 3 constructor
  refine⟨⟨?_,?_,?_⟩,⟨0,Nat.zero_le _,rfl,by simp,rfl,rfl,rfl⟩⟩
  all_goals(repeat' first|exact LF|constructor)
  all_goals exact Lz.of (by simp[goInt])
 ·rintro k f1 o1 c1 ⟨j,hj,rfl,hb,rfl,rfl,rfl⟩;refine wh ?_;refine sp ?_ ?_<;>intro h
  ·have h:j<vs.length:=by simpa using h
   refine wh ?_;refine⟨⟨om,by simp;omega⟩,eL vs[j],by simp[h],?_⟩;refine wh ?_;refine⟨[],[some 1,some 2,some 3,some 4],_,_,_,_,PI x vs[j],t3,?_⟩;rintro r o' c' ⟨rfl,rfl,rfl⟩;have bj:=True.intro;clear bj;cases hv:se x.ak vs[j]
   ·refine wh ?_;refine⟨vs.length - (j+1),?_,om⟩;exact⟨[],[some 0,some 1,some 2,some 3,some 4],_,_,_,t3,⟨j+1,h,rfl,by intro v oH;rw[List.take_succ_eq_append_getElem h]at oH;rcases List.mem_append.1 oH with h1|h1;exact hb v h1;simp at h1;subst h1;exact hv,rfl,rfl,rfl⟩⟩
   ·refine wh ?_;exact⟨[],[some 0,some 1,some 2,some 3,some 4],_,_,_,t3,(j:Int),rfl,rfl,rfl,.inr ⟨j,h,rfl,hb,hv⟩⟩
  ·have h':j=vs.length:=by have:¬j<vs.length:=by simpa using h
                           omega
   subst h';rw[List.take_length]at hb;refine wh ?_;exact⟨[],[some 0,some 1,some 2,some 3,some 4],_,_,_,t3,-1,rfl,rfl,rfl,.inl ⟨rfl,hb⟩⟩
theorem FK {ak:Int} {vs:List ai} (h:∀v∈vs,se ak v=false):yX ak vs=vs:=by
 unfold yX;rw[List.filter_eq_self];intro v hv;rw[h v hv];rfl
theorem u3 (ak:Int) (vs:List ai) (j:Nat) (h:j<vs.length):yX ak (vs.take (j+1))=yX ak (vs.take j)++(if se ak vs[j]=true then []else [vs[j]]):=by
 unfold yX;rw[List.take_succ_eq_append_getElem h,List.filter_append]
 congr 1
 by_cases hb:se ak vs[j]=true<;>simp[hb]
theorem Ty (x:aB) (vs:List ai) (hl:vs.length<1000000):VC E0 122 5 [.tk 0,.cW 124 [] [.ptr 1 0]] (stD x vs)
 (RR (cQ (yX x.ak vs)) 5 [(1,.cells [.ptr 2 0]),(2,kc x 3 4),(3,ic x),(4,jS x)]):=by
 refine en L0 Tryz.f122 ?_;refine⟨[],[some 0,some 1,some 2,some 3,some 4],_,_,_,_,Tw x vs hl,t3,?_⟩;rintro r o' c' ⟨i0,rfl,rfl,rfl,UW⟩;refine wh ?_;refine sp ?_ ?_<;>intro hm
 ·have hm:i0= -1:=hm;rcases UW with⟨_,gJ⟩|⟨j,h,e,_,_⟩
  ·refine wh ?_;refine⟨[0],[some 0,some 1,some 2,some 3,some 4],?_⟩
   iterate 3 constructor
   refine⟨⟨?_,?_,?_⟩,rfl,rfl,rfl⟩
   all_goals(repeat' first|exact LF|constructor)
   rw[FK gJ];exact Lz.rfl
  ·omega
 ·have hm:¬i0= -1:=hm;rcases UW with⟨e,_⟩|⟨j0,h0,rfl,vh,Wt⟩
  ·exact absurd e hm
  refine wh ?_;refine⟨fun k f o c=>∃(i j:Nat) (ws:List ai),i<j∧j≤vs.length∧k=vs.length - j∧ws.length=vs.length∧ws.take i=yX x.ak (vs.take j)∧ws.drop j=vs.drop j∧c=5∧f=[(0,.tk 0),(1,.cW 124 [] [.ptr 1 0]),(5,.s (.int .i64 i)),(6,.s (.int .i64 j))]∧o=stD x ws,⟨vs.length - (j0+1),?_⟩,?_⟩
  ·exact⟨[],[some 0,some 1,some 2,some 3,some 4],_,_,_,t3,⟨j0,j0+1,vs,om,h0,rfl,rfl,(by rw[u3 _ _ _ h0,if_pos Wt,List.append_nil];exact(FK vh).symm),rfl,rfl,rfl,rfl⟩⟩
  ·rintro k f1 o1 c1 ⟨i,j,ws,Zs,hj,rfl,hlen,tY,hdr,rfl,rfl,rfl⟩;refine wh ?_;refine sp ?_ ?_<;>intro h
   ·have h:j<vs.length:=by rw[List.length_map,hlen]at h;omega
    have hw:ws[j]? =some vs[j]:=by
     have:=congrArg (fun l=>l[0]?) hdr;simpa[h]using this
    have PJ:ws.drop (j+1)=vs.drop (j+1):=by
     have:=congrArg (List.drop 1) hdr;simpa[List.drop_drop,Nat.add_comm]using this
    refine wh ?_;refine⟨⟨om,by simp;omega⟩,eL vs[j],by simp[hw],?_⟩;refine wh ?_;refine⟨[],[some 1,some 2,some 3,some 4],_,_,_,_,PI x vs[j],t3,?_⟩;rintro r o' c' ⟨rfl,rfl,rfl⟩;have bj:=True.intro;clear bj;cases hv:se x.ak vs[j]
    ·refine wh ?_;refine⟨⟨om,by simp;omega⟩,eL (ws[i]' om),by simp[show i<ws.length by omega],?_⟩;refine wh ?_;refine⟨vs.length - (j+1),?_,om⟩;refine⟨[],[some 0,some 1,some 2,some 3,some 4],?_⟩
     iterate 3 constructor
     refine⟨⟨?_,?_,?_⟩,⟨i+1,j+1,ws.set i vs[j],om,h,rfl,by simpa using hlen,(by rw[u3 _ _ _ h,if_neg (by simp[hv]),List.take_succ_eq_append_getElem (by simp;omega),List.take_set_of_le (Nat.le_refl _),tY];simp),(by rw[List.drop_set_of_lt om];exact PJ),rfl,rfl,rfl⟩⟩
     all_goals(repeat' first|exact LF|constructor)
     refine Lz.of ?_;rw[List.map_set];rfl
    ·refine wh ?_;refine⟨vs.length - (j+1),?_,om⟩;exact⟨[],[some 0,some 1,some 2,some 3,some 4],_,_,_,t3,⟨i,j+1,ws,om,h,rfl,hlen,(by rw[u3 _ _ _ h,if_pos hv,List.append_nil];exact tY),PJ,rfl,rfl,rfl⟩⟩
   ·have h':j=vs.length:=by have:¬(j:Int)<(((ws.map eL).length:Nat):Int):=h
                            rw[List.length_map,hlen]at this;omega
    subst h';rw[List.take_length]at tY;refine wh ?_;refine⟨⟨om,by simp;try omega,by simp⟩,.inr ?_⟩;refine wh ?_;refine⟨fun hc=>absurd hc (by simp;omega),fun _=>?_⟩;refine wh ?_;refine⟨⟨om,by simp;try omega,by simp;try omega⟩,.inl ?_⟩;refine wh ?_;refine⟨[],[some 0,some 1,some 2,some 3,some 4],?_⟩
    iterate 3 constructor
    refine⟨⟨?_,?_,?_⟩,rfl,rfl,rfl⟩
    all_goals(repeat' first|exact LF|constructor)
    refine Lz.of ?_;rw[←tY];simp[show i≤ws.length by omega]
theorem PK (es:List (Value×TV)):VC E0 97 1 [.mp 0] [(0,.map (dV .i64) es)] (fun r o c=>r= .cW 136 [] [.ptr 1 0]∧c=2∧o=[(1,.cells [.mp 0]),(0,.map (dV .i64) es)]):=by
 refine en L0 Tryz.f97 ?_;exact⟨[],[some 0,some 1],_,_,_,t3,rfl,rfl,rfl⟩
theorem yY (es:List (Value×TV)):VC E0 126 1 [.mp 0] [(0,.map (dV .i64) es)] (fun r o c=>r= .cW 175 [] [.ptr 1 0]∧c=2∧o=[(1,.cells [.mp 0]),(0,.map (dV .i64) es)]):=by
 refine en L0 Tryz.f126 ?_;exact⟨[],[some 0,some 1],_,_,_,t3,rfl,rfl,rfl⟩
theorem Bx:(E0.func 96).isSome=true:=by kernel_rfl
theorem yZ {α:Type} (f:α→TV) (k:Nat) (hk:iN k [238,136,175]=true) (es:List (Int×α)) (gl:k8 (aP es)):
 VC E0 96 2 [.cW k [] [.ptr 1 0]] [(0,.map (dV .i64) (es.map (j4 .i64 f))),(1,.cells [.mp 0])] (fun r o c=>r= .tk 2∧c=3∧
  o=[(2,.arr 1 true ((bY (aP es)).map aW)),(0,.map (dV .i64) (es.map (j4 .i64 f))),(1,.cells [.mp 0])]):=
 VC.Ka (E:=E0) (g:=96) (ky:=[238,136,175]) (k:=k) Bx (fun _ _=>rfl) hk (y:=.map (dV .i64) (es.map (j4 .i64 f))) (ks:=aP es) (by show(es.map (j4 .i64 f)).map (·.1)=_;exact Ki _ _ _) gl
def bf (x:aB):List ai:=(bY (aP x.eJ)).map (nj x)
theorem tH (x:aB) (gl:k8 (aP x.eJ)) (hlen:x.eJ.length<1000000):VC E0 49 3 [.ptr 0 0] (qw x) (RR (cQ (bf x)) 3 (qw x)):=by
 refine en L0 Tryz.f49 ?_;refine⟨[],[some 2],_,_,_,_,PK _,t3,cw ?_⟩;refine⟨[],[some 2,some 4],_,_,_,_,yZ yW _ rfl x.eJ gl,t3,cw ?_⟩;have hv:bf x=(bY (aP x.eJ)).map (nj x):=rfl;have uk:(bY (aP x.eJ)).length<1000000:=by rw[ia];simpa using hlen
 generalize wJ:bY (aP x.eJ)=ks at*
 refine⟨fun k f o c=>∃i:Nat,i≤ks.length∧k=ks.length - i∧c=5∧f=[(0,.ptr 0 0),(3,.tk 3),(13,.tk 4),(14,.s (.int .i64 ks.length)),(15,.s (.int .i64 i))]∧o=[(0,kc x 1 2),(1,ic x),(2,jS x),(3,.arr 6 true (((ks.take i).map (nj x)).map eL)),(4,.arr 1 true (ks.map aW))],⟨ks.length,?_⟩,?_⟩
 ·refine⟨[],[some 0,some 1,some 2,none,some 7],?_⟩
  iterate 3 constructor
  refine⟨⟨?_,?_,?_⟩,⟨0,Nat.zero_le _,rfl,rfl,rfl,rfl⟩⟩
  all_goals(repeat' first|exact LF|constructor)
  all_goals exact Lz.of (by simp[goInt])
 ·rintro k f1 o1 c1 ⟨i,hi,rfl,rfl,rfl,rfl⟩;refine wh ?_;refine sp ?_ ?_<;>intro h
  ·have h:i<ks.length:=by simpa using h
   refine wh ?_;refine⟨⟨om,by simp;omega⟩,aW ks[i],by simp[h],?_⟩;refine wh ?_;refine⟨[],[some 0,some 1,some 2],_,_,_,_,tG x ks[i],t3,cw ?_⟩;refine⟨by simp;omega,?_⟩;refine wh ?_;refine⟨ks.length - (i+1),?_,om⟩;refine⟨[],[some 0,some 1,some 2,some 9,some 4],?_⟩
   iterate 3 constructor
   refine⟨⟨?_,?_,?_⟩,⟨i+1,h,rfl,rfl,rfl,rfl⟩⟩
   all_goals(repeat' first|exact LF|constructor)
   refine Lz.of ?_;rw[List.take_succ_eq_append_getElem h,List.map_append,List.map_append];rfl
  ·have h':i=ks.length:=by have:¬i<ks.length:=by simpa using h
                           omega
   subst h';rw[List.take_length,←hv];refine wh ?_;exact⟨[3],[some 0,some 1,some 2],_,_,_,t3,rfl,rfl,rfl⟩
def fM (x:aB):List (List ai):=(bY (aP x.bk)).map fun w=>(bH x.bk w).getD []
theorem W7 (x:aB) (gl:k8 (aP x.bk)) (hlen:x.bk.length<1000000):VC E0 177 3 [.ptr 0 0] (qw x) (RR (.sl 1 ((fM x).map FH) false) 3 (qw x)):=by
 refine en L0 Tryz.f177 ?_;refine⟨[],[some 1],_,_,_,_,yY _,t3,cw ?_⟩;refine⟨[],[some 1,some 4],_,_,_,_,yZ cQ _ rfl x.bk gl,t3,cw ?_⟩;have hv:fM x=(bY (aP x.bk)).map fun w=>(bH x.bk w).getD []:=rfl;have oI:∀w∈bY (aP x.bk),w∈aP x.bk:=fun w hw=>gq.1 hw;have uk:(bY (aP x.bk)).length<1000000:=by rw[ia];simpa using hlen
 generalize wJ:bY (aP x.bk)=ks at*
 refine⟨fun k f o c=>∃i:Nat,i≤ks.length∧k=ks.length - i∧c=5∧f=[(0,.ptr 0 0),(3,.tk 3),(11,.tk 4),(12,.s (.int .i64 ks.length)),(13,.s (.int .i64 i))]∧o=[(0,kc x 1 2),(1,ic x),(2,jS x),(3,.arr 1 true (((ks.take i).map fun w=>(bH x.bk w).getD []).map FH)),(4,.arr 1 true (ks.map aW))],⟨ks.length,?_⟩,?_⟩
 ·refine⟨[],[some 0,some 1,some 2,none,some 7],?_⟩
  iterate 3 constructor
  refine⟨⟨?_,?_,?_⟩,⟨0,Nat.zero_le _,rfl,rfl,rfl,rfl⟩⟩
  all_goals(repeat' first|exact LF|constructor)
  all_goals exact Lz.of (by simp[goInt])
 ·rintro k f1 o1 c1 ⟨i,hi,rfl,rfl,rfl,rfl⟩;refine wh ?_;refine sp ?_ ?_<;>intro h
  ·have h:i<ks.length:=by simpa using h
   refine wh ?_;refine⟨⟨om,by simp;omega⟩,aW ks[i],by simp[h],?_⟩;refine wh ?_;have oz:=l9 .i64 .i64 cQ ks[i] x.bk;have vn:((ks.take (i+1)).map fun w=>(bH x.bk w).getD []).map FH=((ks.take i).map fun w=>(bH x.bk w).getD []).map FH++[FH ((bH x.bk ks[i]).getD [])]:=by
    rw[List.take_succ_eq_append_getElem h,List.map_append,List.map_append];rfl
   cases hc:bH x.bk ks[i]with
   |none=>exact absurd (oI _ (List.getElem_mem h)) (oi.1 hc)
   |some vs=>
    rw[hc]at oz vn;refine⟨_,oz,?_⟩;refine wh ?_;refine⟨by simp;omega,?_⟩;refine wh ?_;refine⟨ks.length - (i+1),?_,om⟩;refine⟨[],[some 0,some 1,some 2,some 6,some 4],?_⟩
    iterate 3 constructor
    refine⟨⟨?_,?_,?_⟩,⟨i+1,h,rfl,rfl,rfl,rfl⟩⟩
    all_goals(repeat' first|exact LF|constructor)
    refine Lz.of ?_;rw[vn];rfl
  ·have h':i=ks.length:=by have:¬i<ks.length:=by simpa using h
                           omega
   subst h';rw[List.take_length,←hv];refine wh ?_;exact⟨[3],[some 0,some 1,some 2],_,_,_,t3,rfl,rfl,rfl⟩
set_option maxHeartbeats 4000000
def aA (v:ai):b8:=⟨v.kind,v.chain,v.aq,v.node⟩
def iq (x:aB):Nat→aB
 |0=>x
 |m+1=>gQ (iq x m) aF
theorem lq (x:aB):∀m,(iq x m).cu=x.cu+m
 |0=>by simp[iq]
 |m+1=>by simp[iq,gQ,lq x m];omega
def c6 (x:aB) (s:Int):aB:=iq x (s - x.cu).toNat
def dq (x:aB) (l:List ai):aB:=l.foldl (fun x v=>gQ (c6 x v.slot) (aA v)) x
theorem IE (x:aB) (l:List ai) (v:ai):dq x (l++[v])=gQ (c6 (dq x l) v.slot) (aA v):=by simp[dq]
theorem IF {es:List (Int×ai)} (h:KB es) {v:ai} {e:Int×ai} (he:e∈fX es v):e.2=v∨e∈es:=by
 unfold fX at he;split at he
 ·rcases(iG h.mv.nd).1 he with rfl |⟨_,h⟩
  ·exact .inl rfl
  ·exact .inr h
 ·split at he
  ·rcases(iG h.mv.nd).1 he with rfl |⟨_,h⟩
   ·exact .inl rfl
   ·exact .inr h
  ·exact .inr he
theorem L7 {l:List ai} (hl:∀v∈l,vR v.slot) {e:Int×ai} (he:e∈fY l):e.2∈l:=by
 have:∀(l:List ai) (es:List (Int×ai)),KB es→(∀v∈l,vR v.slot)→∀e∈l.foldl fX es,e.2∈l∨e∈es:=by
  intro l
  induction l with
  |nil=>intro es _ _ e he;exact .inr he
  |cons v l ih=>
   intro es h hv e he;obtain⟨h1,_,_⟩:=Bw h (hv v List.mem_cons_self);rcases ih _ h1 (fun w hw=>hv w (List.mem_cons_of_mem _ hw)) e he with h2|h2
   ·exact .inl (List.mem_cons_of_mem _ h2)
   ·rcases IF h h2 with h3|h3
    ·rw[h3];exact .inl List.mem_cons_self
    ·exact .inr h3
 rcases this l [] ⟨⟨by simp,by simp⟩,by simp⟩ hl e he with h|h
 ·exact h
 ·cases h
theorem By {l:List (List ai)} (hl:∀x∈l,∀v∈x,vR v.slot) {v:ai} (hv:v∈ee l):∃x∈l,v∈x:=by
 have hf:∀v∈l.flatten,vR v.slot:=fun v hv=>by obtain⟨x,hx,hv⟩:=List.mem_flatten.1 hv;exact hl x hx v hv
 have:=L7 hf ((lh (lp hf).1.mv).1 hv);obtain⟨x,hx,hv⟩:=List.mem_flatten.1 this;exact⟨x,hx,hv⟩
structure fh (x:aB):Prop where
 nd:(aP x.bk).Nodup
 k5:∀w∈aP x.bk,m5 w
 L9:∀e∈x.bk,e.2.length≤600∧∀v∈e.2,vR v.slot∧v.slot<512
theorem pL:∀(n:Nat) (l:List Int),l.Nodup→(∀w∈l,1≤w∧w≤n)→l.length≤n
 |0,l,_,h=>by
  cases l with
  |nil=>simp
  |cons a _=>have:=h a (by simp);omega
 |n+1,l,hn,h=>by
  have h1:=pL n (l.erase ((n+1:Nat):Int)) (hn.erase _) fun w hw=>by
   obtain⟨q1,q2⟩:=hn.mem_erase_iff.1 hw;have:=h w q2;omega
  rw[List.length_erase]at h1;split at h1<;>omega
theorem IG {l:List Int} (h:l.Nodup) (h5:∀w∈l,m5 w):l.length≤5:=pL 5 l h fun w hw=>by have:=h5 w hw;unfold m5 at this;omega
theorem fh.len {x:aB} (h:fh x):x.bk.length≤5:=by have:=IG h.nd h.k5;simpa using this
theorem aaP {w:Int} (h:m5 w):IntKind.i64.min≤w∧w≤IntKind.i64.max:=by
 unfold m5 at h;have h1:IntKind.i64.min= -9223372036854775808:=rfl;have h2:IntKind.i64.max=9223372036854775807:=rfl;omega
theorem fh.ks {x:aB} (h:fh x):k8 (aP x.bk):=⟨by have:=h.len;simp;omega,fun w hw=>aaP (h.k5 w hw),h.nd⟩
theorem fh.all {x:aB} (h:fh x):(fM x).length≤8∧∀l∈fM x,l.length≤600∧∀v∈l,vR v.slot∧v.slot<512:=by
 refine⟨by have:=h.len;simp[fM,ia];omega,fun l hl=>?_⟩;obtain⟨w,hw,rfl⟩:=List.mem_map.1 hl;cases hc:bH x.bk w with
 |none=>simp
 |some vs=>exact h.L9 _ ((eI h.nd).1 hc)
theorem Kj (x:aB) (h:fh x) (hn:0≤x.cu∧x.cu≤512):VC E0 127 3 [.ptr 0 0] (qw x) (RR (.c4 []) 3 (qw (dq x (ee (fM x))))):=by
 obtain⟨a1,a2⟩:=h.all;have hB:∀v∈ee (fM x),v.slot<512:=fun v hv=>by
  obtain⟨l,hl,hv⟩:=By (fun l hl v hv=>((a2 l hl).2 v hv).1) hv;exact((a2 l hl).2 v hv).2
 have hBl:(ee (fM x)).length≤4800:=by
  obtain⟨_,hlen⟩:=lp (l:=(fM x).flatten) (fun v hv=>by obtain⟨l,hl,hv⟩:=List.mem_flatten.1 hv;exact((a2 l hl).2 v hv).1);have:=u0 a1 (fun l hl=>(a2 l hl).1) (i:=(fM x).length);rw[List.take_length]at this;unfold ee;rw[FD];omega
 refine en L0 Tryz.f127 ?_;refine⟨[],[some 0,some 1,some 2],_,_,_,_,W7 x h.ks (by have:=h.len;omega),t3,cw ?_⟩;refine⟨[],[],_,_,_,_,Tu (fM x) a1 (fun l hl=>(a2 l hl).1) (fun l hl v hv=>((a2 l hl).2 v hv).1),t3,cw ?_⟩;generalize hBe:ee (fM x)=B at*
 refine⟨fun k f o c=>∃(i:Nat) (y:aB),i≤B.length∧k=B.length - i∧y=dq x (B.take i)∧0≤y.cu∧y.cu≤512+i∧c=3∧f=[(0,.ptr 0 0),(6,.sl 6 (B.map eL) false),(7,.s (.int .i64 B.length)),(8,.s (.int .i64 i))]∧o=qw y,⟨B.length,?_⟩,?_⟩
 ·refine⟨[],[some 0,some 1,some 2],?_⟩
  iterate 3 constructor
  refine⟨⟨?_,?_,?_⟩,⟨0,x,Nat.zero_le _,rfl,rfl,hn.1,by have:=hn.2;simpa using this,rfl,rfl,rfl⟩⟩
  all_goals(repeat' first|exact LF|constructor)
  all_goals exact Lz.of (by simp[goInt])
 ·rintro k f1 o1 c1 ⟨i,y,hi,rfl,hy,hy0,hy1,rfl,rfl,rfl⟩;refine wh ?_;refine sp ?_ ?_<;>intro hl
  ·have hl:i<B.length:=by simpa using hl
   have KY:=hB _ (List.getElem_mem hl);have vn:dq x (B.take (i+1))=gQ (c6 y B[i].slot) (aA B[i]):=by rw[List.take_succ_eq_append_getElem hl,IE,hy]
   refine wh ?_;refine jg hl ?_;refine wh ?_;generalize y5:B[i]=v at*
   refine⟨fun k f o c=>∃m:Nat,m≤(v.slot - y.cu).toNat∧k=(v.slot - y.cu).toNat - m∧c=4∧f=[(0,.ptr 0 0),(3,.ptr 3 0),(6,.sl 6 (B.map eL) false),(7,.s (.int .i64 B.length)),(8,.s (.int .i64 i))]∧o=[(0,kc (iq y m) 1 2),(1,ic (iq y m)),(2,jS (iq y m)),(3,.cells (eL v))],⟨(v.slot - y.cu).toNat,?_⟩,?_⟩
   ·exact⟨[],[some 0,some 1,some 2,some 3],_,_,_,t3,⟨0,Nat.zero_le _,rfl,rfl,rfl,rfl⟩⟩
   ·rintro k f1 o1 c1 ⟨m,hm,rfl,rfl,rfl,rfl⟩;have hnx:=lq y m;refine wh ?_;refine sp ?_ ?_<;>intro aU
    ·have aU:(iq y m).cu<v.slot:=aU;refine wh ?_;refine⟨[],[some 0,some 1,some 2],_,_,_,_,Dn (iq y m) aF om,t3,cw ?_⟩;refine⟨(v.slot - y.cu).toNat - (m+1),?_,om⟩;exact⟨[],[some 0,some 1,some 2,some 3],_,_,_,t3,⟨m+1,om,rfl,rfl,rfl,rfl⟩⟩
    ·have aU:¬(iq y m).cu<v.slot:=aU;have mH:m=(v.slot - y.cu).toNat:=by omega
     have hup:c6 y v.slot=iq y m:=by rw[mH];rfl
     refine wh ?_;refine⟨[],[some 0,some 1,some 2],_,_,_,_,Dn (iq y m) (aA v) om,t3,cw ?_⟩;refine⟨B.length - (i+1),?_,om⟩;rw[hup]at vn;exact⟨[],[some 0,some 1,some 2],_,_,_,t3,⟨i+1,gQ (iq y m) (aA v),hl,rfl,vn.symm,by simp[gQ];omega,by simp[gQ];omega,rfl,rfl,rfl⟩⟩
  ·have h':i=B.length:=by have:¬i<B.length:=by simpa using hl
                          omega
   subst h';rw[List.take_length]at hy;subst hy;refine wh ?_;exact⟨[],[some 0,some 1,some 2],_,_,_,t3,rfl,rfl,rfl⟩
theorem vS (x:aB) (gl:k8 (aP x.bk)) (h0:x.bk≠[]):VC E0 125 2 [.cW 175 [] [.ptr 1 0]] [(0,ic x),(1,.cells [.mp 0])] (fun r o c=>r= .bg 2 (aP x.bk).length∧c=3∧
      o=[(2,.eE (aP x.bk)),(0,ic x),(1,.cells [.mp 0])]):=
 VC.collect (E:=E0) (g:=125) (ky:=[238,175]) (k:=175) (by kernel_rfl) (fun _ _=>rfl) rfl (y:=ic x) (ks:=aP x.bk) (by show(x.bk.map (j4 .i64 cQ)).map (·.1)=_;exact Ki _ _ _) gl (by intro e;simp[aP]at e;exact h0 e)
theorem FL (ks:List Int) (h0:0<ks.length) (hl:ks.length<1000000) (h5:∀w∈ks,m5 w):VC E0 89 1 [.s (.int .u64 0),.bg 0 ks.length] [(0,.eE ks)] (fun r o c=>r= .s (.int .u64 (bZ 0 ks))∧c=1∧o=[(0,.eE ks)]):=
 VC.Pq (E:=E0) (g:=89) (val:=l7) (pre:=[.int .u64 0]) (by kernel_rfl) (fun _ _=>rfl) (by simp[scalar]) h0 (v:=.int .u64 (bZ 0 ks)) (Dm h5 hl) rfl
@[reducible] def bQ (x:aB) (aO:Int) (vs:List ai):aB:={x with bk:=if aO∈aP x.bk then x.bk else x.bk++[(aO,yX x.ak vs)]}
def bR (x:aB) (b aO:Int) (vs:List ai):aB×List ai×Bool:=
 if(x.st=1∧x.b=b)∧1≤aO∧aO≤x.ah then
  (if l6 (bZ 0 (aP (bQ x aO vs).bk)) x.ah=true then
   (let y:=dq {bQ x aO vs with st:=2} (ee (fM {bQ x aO vs with st:=2}));(y,bf y,true))
  else(bQ x aO vs,[],false))
 else(x,[],false)
theorem FM {x:aB} (h:fh x) {aO:Int} (hw:m5 aO) {vs:List ai} (hl:vs.length≤600) (hv:∀v∈vs,vR v.slot):fh (bQ x aO vs)∧(bQ x aO vs).bk≠[]:=by
 unfold bQ;by_cases hm:aO∈aP x.bk
 ·simp only[hm,if_true];exact⟨⟨h.nd,h.k5,h.L9⟩,by rintro e;simp[e,aP]at hm⟩
 ·simp only[hm,if_false];refine⟨⟨?_,fun w OJ=>?_,fun e he=>?_⟩,by simp⟩
  ·simp only[aP,List.map_append,List.nodup_append];exact⟨h.nd,by simp,fun a ha b hb=>by simp at hb;subst hb;rintro rfl;exact hm ha⟩
  ·simp only[aP,List.map_append,List.mem_append]at OJ;rcases OJ with h1|h1
   ·exact h.k5 w h1
   ·simp at h1;subst h1;exact hw
  ·rcases List.mem_append.1 he with h1|h1
   ·exact h.L9 e h1
   ·simp at h1;subst h1;refine⟨Nat.le_trans (List.length_filter_le _ _) hl,fun v oH=>?_⟩;obtain⟨q1,q2⟩:=List.mem_filter.1 oH;exact⟨hv v q1,by simp[se]at q2;omega⟩
structure ef (x:aB):Prop where
 nd:(aP x.eJ).Nodup
 pI:∀n∈aP x.eJ,0≤n∧n<x.cu
theorem ef.lay {x:aB} (h:ef x) (hn:0≤x.cu) (c:b8):ef (gQ x c):=by
 refine⟨sc h.nd,fun n hm=>?_⟩;have hm:n∈aP (g5 x.eJ x.cu (c,0)):=hm;rw[qt]at hm;show 0≤n∧n<x.cu+1;split at hm
 ·have:=h.pI n hm;omega
 ·rcases List.mem_append.1 hm with h1|h1
  ·have:=h.pI n h1;omega
  ·simp at h1;omega
theorem ef.iq {x:aB} (h:ef x) (hn:0≤x.cu):∀m,ef (iq x m)
 |0=>h
 |m+1=>(ef.iq h hn m).lay (by rw[lq];omega) aF
theorem ef.fill {x:aB} (h:ef x) (hn:0≤x.cu):∀l:List ai,ef (dq x l)∧0≤(dq x l).cu∧((∀v∈l,v.slot<512)→x.cu≤512→(dq x l).cu≤512+l.length):=by
 intro l
 induction l generalizing x with
 |nil=>exact⟨h,hn,fun _ hx=>by simpa[dq]using hx⟩
 |cons v l ih=>
  have e:dq x (v::l)=dq (gQ (c6 x v.slot) (aA v)) l:=by simp[dq]
  have h1:(c6 x v.slot).cu=x.cu+(v.slot - x.cu).toNat:=lq x _;have h2:ef (c6 x v.slot):=h.iq hn _;have h3:(gQ (c6 x v.slot) (aA v)).cu=(c6 x v.slot).cu+1:=rfl;rw[e];have gen:∀(l:List ai) (y:aB) (k:Nat),(∀v∈l,v.slot<512)→0≤y.cu→y.cu≤512+k→(dq y l).cu≤512+k+l.length:=by
   intro l
   induction l with
   |nil=>intro y k _ _ hy;simpa[dq]using hy
   |cons v l ih=>
    intro y k hv hy0 hy;have e:dq y (v::l)=dq (gQ (c6 y v.slot) (aA v)) l:=by simp[dq]
    have h1:(c6 y v.slot).cu=y.cu+(v.slot - y.cu).toNat:=lq y _;have h3:(gQ (c6 y v.slot) (aA v)).cu=(c6 y v.slot).cu+1:=rfl;have:=hv v List.mem_cons_self;have:=ih (gQ (c6 y v.slot) (aA v)) (k+1) (fun w hw=>hv w (List.mem_cons_of_mem _ hw)) om om;rw[e,List.length_cons];omega
  obtain⟨q1,q2,_⟩:=ih (h2.lay om (aA v)) om;refine⟨q1,q2,fun hv hx=>?_⟩;have:=hv v List.mem_cons_self;have:=gen l (gQ (c6 x v.slot) (aA v)) 1 (fun w hw=>hv w (List.mem_cons_of_mem _ hw)) om om;rw[List.length_cons];omega
theorem ef.len {x:aB} (h:ef x) (hn:x.cu≤100000):x.eJ.length≤100000:=by
 have h2:((aP x.eJ).map (· +1)).Nodup:=by
  refine List.Pairwise.map _ ?_ h.nd;intro a b LH e;exact LH om
 have:=pL 100000 ((aP x.eJ).map (· +1)) h2 fun w hw=>by
  obtain⟨n,KT,rfl⟩:=List.mem_map.1 hw;have:=h.pI n KT;omega
 simpa using this
theorem ef.ks {x:aB} (h:ef x) (hn:x.cu≤100000):k8 (aP x.eJ):=by
 refine⟨by have:=h.len hn;simp;omega,fun n hm=>?_,h.nd⟩;have:=h.pI n hm;have h1:IntKind.i64.min= -9223372036854775808:=rfl;have h2:IntKind.i64.max=9223372036854775807:=rfl;omega
theorem Ma {l:List (List ai)} (h8:l.length≤8) (YR:∀x∈l,x.length≤600) (hr:∀x∈l,∀v∈x,vR v.slot):(ee l).length≤4800:=by
 obtain⟨_,hlen⟩:=lp (l:=l.flatten) (fun v hv=>by obtain⟨x,hx,hv⟩:=List.mem_flatten.1 hv;exact hr x hx v hv);have:=u0 h8 YR (i:=l.length);rw[List.take_length]at this;unfold ee;rw[FD];omega
theorem FN {x:aB} (h:fh x) (ho:ef x) (hn:0≤x.cu∧x.cu≤512):ef (dq x (ee (fM x)))∧0≤(dq x (ee (fM x))).cu∧(dq x (ee (fM x))).cu≤5312:=by
 obtain⟨a1,a2⟩:=h.all;obtain⟨q1,q2,q3⟩:=ho.fill hn.1 (ee (fM x));have:=Ma a1 (fun l hl=>(a2 l hl).1) (fun l hl v hv=>((a2 l hl).2 v hv).1);have:=q3 (fun v hv=>by
  obtain⟨l,hl,hv⟩:=By (fun l hl v hv=>((a2 l hl).2 v hv).1) hv;exact((a2 l hl).2 v hv).2) hn.2
 exact⟨q1,q2,om⟩
theorem FO {α:Type} {es:List (Int×α)} (h:es≠[]):0<(aP es).length:=by
 simp only[aP,List.length_map];exact List.length_pos_iff.2 h
theorem IH (x:aB) (b aO:Int) (vs:List ai) (hc:fh x) (ho:ef x) (hm:m5 x.ah) (hl:vs.length≤600) (hv:∀v∈vs,vR v.slot) (hn:0≤x.cu∧x.cu≤512):
 VC E0 86 3 [.ptr 0 0,.s (.int .u64 b),.s (.int .i64 aO),cQ vs] (qw x) (RR (.c4 [cQ (bR x b aO vs).2.1,.s (.bool (bR x b aO vs).2.2)]) 3 (qw (bR x b aO vs).1)):=by
 refine en L0 Tryz.f86 ?_;refine⟨[],[some 0,some 1,some 2],_,_,_,_,PG x 1 b,t3,?_⟩;rintro r o' c' ⟨rfl,rfl,rfl⟩;have bj:=True.intro;clear bj;cases h1:decide (x.st=1∧x.b=b)
 ·have e:bR x b aO vs=(x,[],false):=by unfold bR;rw[if_neg fun h=>of_decide_eq_false h1 h.1]
  rw[e];refine wh ?_;exact⟨[],[some 0,some 1,some 2],_,_,_,t3,rfl,rfl,rfl⟩
 ·refine wh ?_;refine⟨[],[some 0,some 1,some 2],_,_,_,_,PH x aO,t3,?_⟩;rintro r o' c' ⟨rfl,rfl,rfl⟩;have bj:=True.intro;clear bj;cases h2:decide (1≤aO∧aO≤x.ah)
  ·have e:bR x b aO vs=(x,[],false):=by unfold bR;rw[if_neg fun h=>of_decide_eq_false h2 h.2]
   rw[e];refine wh ?_;exact⟨[],[some 0,some 1,some 2],_,_,_,t3,rfl,rfl,rfl⟩
  ·have hw:m5 aO:=by have:=of_decide_eq_true h2;unfold m5 at*;omega
   have tZ:=FM hc hw hl hv;refine wh ?_;have oz:=l9 .i64 .i64 cQ aO x.bk;cases hx:bH x.bk aO with
   |none=>
    have Oh:=oi.1 hx;rw[hx]at oz;refine⟨_,oz,?_⟩;refine wh ?_;refine⟨[],[],_,_,_,_,L5 vs om,t3,cw ?_⟩;refine⟨[],[some 10,some 3,some 0,some 1,some 2],_,_,_,_,Ty x vs om,t3,cw ?_⟩;refine⟨[],[some 1],_,_,_,_,yY _,t3,cw ?_⟩;have m7:dC (x.bk.map (j4 .i64 cQ)) (.int .i64 aO) (cQ (yX x.ak vs))=(bQ x aO vs).bk.map (j4 .i64 cQ):=by
     rw[pJ,ni Oh];simp[Oh]
    refine⟨[],[some 1,some 17],_,_,_,_,vS (bQ x aO vs) tZ.1.ks tZ.2,⟨by((repeat' first|exact LF|constructor);all_goals(first|exact Lz.of m7|exact m7)),by((repeat' first|exact LF|constructor);all_goals(first|exact Lz.of m7|exact m7)),by rfl⟩,?_⟩;rintro r o' c' ⟨rfl,rfl,rfl⟩;refine wh ?_;refine⟨[],[some 20],_,_,_,_,FL (aP (bQ x aO vs).bk) (FO tZ.2) (by have:=IG tZ.1.nd tZ.1.k5;omega) tZ.1.k5,t3,cw ?_⟩;refine⟨[],[],_,_,_,_,uX (bZ 0 (aP (bQ x aO vs).bk)) x.ah (la (by decide) tZ.1.k5).1 hm,t3,?_⟩;rintro r o' c' ⟨rfl,rfl,rfl⟩;have bj:=True.intro;clear bj;cases he:l6 (bZ 0 (aP (bQ x aO vs).bk)) x.ah
    ·have e:bR x b aO vs=(bQ x aO vs,[],false):=by unfold bR;rw[if_pos ⟨of_decide_eq_true h1,of_decide_eq_true h2⟩,if_neg (by simp[he])]
     rw[e];refine wh ?_;exact⟨[],[some 0,some 1,some 2],_,_,_,t3,rfl,rfl,rfl⟩
    ·have e:bR x b aO vs=(dq {bQ x aO vs with st:=2} (ee (fM {bQ x aO vs with st:=2})),bf (dq {bQ x aO vs with st:=2} (ee (fM {bQ x aO vs with st:=2}))),true):=by unfold bR;rw[if_pos ⟨of_decide_eq_true h1,of_decide_eq_true h2⟩,if_pos he]
     have rD:fh {bQ x aO vs with st:=2}:=⟨tZ.1.nd,tZ.1.k5,tZ.1.L9⟩;obtain⟨f1,f2,f3⟩:=FN rD (⟨ho.nd,ho.pI⟩:ef {bQ x aO vs with st:=2}) hn;rw[e];refine wh ?_;refine⟨[],[some 0,some 1,some 2],_,_,_,_,Kj {bQ x aO vs with st:=2} rD hn,t3,cw ?_⟩;generalize dq {bQ x aO vs with st:=2} (ee (fM {bQ x aO vs with st:=2}))=z at*
     refine⟨[],[some 0,some 1,some 2],_,_,_,_,tH z (f1.ks om) (by have:=f1.len om;omega),t3,cw ?_⟩;exact⟨[],[some 0,some 1,some 2],_,_,_,t3,rfl,rfl,rfl⟩
   |some ws=>
    have hmm:aO∈aP x.bk:=Classical.not_not.1 fun hn=>by rw[oi.2 hn]at hx;cases hx
    have Ip:x.bk=(bQ x aO vs).bk:=by simp[hmm]
    rw[hx]at oz;refine⟨_,oz,?_⟩;refine wh ?_;refine⟨[],[some 1],_,_,_,_,yY _,t3,cw ?_⟩;refine⟨[],[some 1,some 11],_,_,_,_,vS (bQ x aO vs) tZ.1.ks tZ.2,⟨by((repeat' first|exact LF|constructor);all_goals(first|exact Lz.of (by rw[←Ip])|rw[←Ip])),by((repeat' first|exact LF|constructor);all_goals(first|exact Lz.of (by rw[←Ip])|rw[←Ip])),by rfl⟩,?_⟩;rintro r o' c' ⟨rfl,rfl,rfl⟩;refine wh ?_;refine⟨[],[some 14],_,_,_,_,FL (aP (bQ x aO vs).bk) (FO tZ.2) (by have:=IG tZ.1.nd tZ.1.k5;omega) tZ.1.k5,t3,cw ?_⟩;refine⟨[],[],_,_,_,_,uX (bZ 0 (aP (bQ x aO vs).bk)) x.ah (la (by decide) tZ.1.k5).1 hm,t3,?_⟩
    rintro r o' c' ⟨rfl,rfl,rfl⟩;have bj:=True.intro;clear bj;cases he:l6 (bZ 0 (aP (bQ x aO vs).bk)) x.ah
    ·have e:bR x b aO vs=(bQ x aO vs,[],false):=by unfold bR;rw[if_pos ⟨of_decide_eq_true h1,of_decide_eq_true h2⟩,if_neg (by simp[he])]
     rw[e];refine wh ?_;exact⟨[],[some 0,some 1,some 2],_,_,_,t3,rfl,rfl,rfl⟩
    ·have e:bR x b aO vs=(dq {bQ x aO vs with st:=2} (ee (fM {bQ x aO vs with st:=2})),bf (dq {bQ x aO vs with st:=2} (ee (fM {bQ x aO vs with st:=2}))),true):=by unfold bR;rw[if_pos ⟨of_decide_eq_true h1,of_decide_eq_true h2⟩,if_pos he]
     have rD:fh {bQ x aO vs with st:=2}:=⟨tZ.1.nd,tZ.1.k5,tZ.1.L9⟩;obtain⟨f1,f2,f3⟩:=FN rD (⟨ho.nd,ho.pI⟩:ef {bQ x aO vs with st:=2}) hn;rw[e];refine wh ?_;refine⟨[],[some 0,some 1,some 2],_,_,_,_,Kj {bQ x aO vs with st:=2} rD hn,t3,cw ?_⟩;generalize dq {bQ x aO vs with st:=2} (ee (fM {bQ x aO vs with st:=2}))=z at*
     refine⟨[],[some 0,some 1,some 2],_,_,_,_,tH z (f1.ks om) (by have:=f1.len om;omega),t3,cw ?_⟩;exact⟨[],[some 0,some 1,some 2],_,_,_,t3,rfl,rfl,rfl⟩
theorem PL (r w:Int) (hr:1≤r∧r<1152921504606846976) (hw:m5 w):VC E0 139 0 [.s (.int .u64 r),.s (.int .i64 w)] [] (RR (.c4 [.s (.int .u64 (8*r+w)),.s (.int .i64 0)]) 0 []):=by
 unfold m5 at hw;refine en L0 Tryz.f139 ?_;refine sp ?_ ?_<;>intro h1
 ·have h1:r<1:=h1;omega
 ·refine wh ?_;refine sp ?_ ?_<;>intro h2
  ·have h2:r≥1152921504606846976:=h2;omega
  ·refine wh ?_;refine⟨[],[],_,_,_,_,uY w,t3,?_⟩;rintro r o' c' ⟨rfl,rfl,rfl⟩;have bj:=True.intro;clear bj;cases h0:lf w
   ·exact absurd (decide_eq_true (show w≥1∧w≤5 by omega)) (by unfold lf at h0;simp[h0])
   ·refine wh ?_;refine⟨[],[],?_⟩
    iterate 3 constructor
    refine⟨⟨?_,?_,?_⟩,rfl,rfl,rfl⟩
    all_goals(repeat' first|exact LF|constructor)
    refine Lz.int ?_;rw[IntWalk.u64_in (8*r) om,IntWalk.u64_in w om,IntWalk.u64_in _ om]
def gR (b aO:Int):Int×Int:=
 let r0:=if 1>b / 8 then 1 else b / 8
 let r1:=if 8*r0+aO≤b then r0+1 else r0
 if r1≥1152921504606846976 then(0,9)else(8*r1+aO,0)
theorem Kk (b aO:Int) (hb:0≤b∧b≤18446744073709551615) (hw:m5 aO):VC E0 100 0 [.s (.int .u64 b),.s (.int .i64 aO)] [] (RR (.c4 [.s (.int .u64 (gR b aO).1),.s (.int .i64 (gR b aO).2)]) 0 []):=by
 have e0:IntKind.u64.wrap (b.tdiv 8)=b / 8:=by rw[Int.tdiv_eq_ediv_of_nonneg hb.1];exact IntWalk.u64_in _ om
 have OJ:=hw;unfold m5 at hw;refine en L0 Tryz.f100 ?_;refine⟨[],[],_,_,_,_,uY aO,t3,?_⟩;rintro r o' c' ⟨rfl,rfl,rfl⟩;have bj:=True.intro;clear bj;cases h0:lf aO
 ·exact absurd (decide_eq_true (show aO≥1∧aO≤5 by omega)) (by unfold lf at h0;simp[h0])
 ·obtain⟨r0,zY⟩:∃r0,r0=(if(1:Int)>IntKind.u64.wrap (b.tdiv 8)then 1 else IntKind.u64.wrap (b.tdiv 8)):=⟨_,rfl⟩;have qH:r0=if(1:Int)>b / 8 then 1 else b / 8:=by rw[zY,e0]
  have hrr:1≤r0∧r0≤2305843009213693951∧8*r0≤18446744073709551608:=by rw[qH];split<;>omega
  refine wh ?_;refine sp ?_ ?_<;>intro h1
  ·have h1:IntKind.u64.wrap (IntKind.u64.wrap (8*(if(1:Int)>IntKind.u64.wrap (b.tdiv 8)then 1 else IntKind.u64.wrap (b.tdiv 8)))+IntKind.u64.wrap aO)≤b:=h1;rw[←zY,IntWalk.u64_in (8*r0) om,IntWalk.u64_in aO om,IntWalk.u64_in _ om]at h1;refine wh ?_;refine sp ?_ ?_<;>intro h2
   ·have h2:IntKind.u64.wrap ((if(1:Int)>IntKind.u64.wrap (b.tdiv 8)then 1 else IntKind.u64.wrap (b.tdiv 8))+1)≥1152921504606846976:=h2;rw[←zY,IntWalk.u64_in _ om]at h2;refine wh ?_;have e:gR b aO=(0,9):=by unfold gR;rw[←qH];simp only[h1,if_true,h2]
    rw[e];exact⟨[],[],_,_,_,t3,rfl,rfl,rfl⟩
   ·have h2:¬IntKind.u64.wrap ((if(1:Int)>IntKind.u64.wrap (b.tdiv 8)then 1 else IntKind.u64.wrap (b.tdiv 8))+1)≥1152921504606846976:=h2;rw[←zY,IntWalk.u64_in _ om]at h2;refine wh ?_;have e3:IntKind.u64.wrap ((if(1:Int)>IntKind.u64.wrap (b.tdiv 8)then 1 else IntKind.u64.wrap (b.tdiv 8))+1)=r0+1:=by rw[←zY];exact IntWalk.u64_in _ om
    refine⟨[],[],_,_,_,_,PL (r0+1) aO om OJ,⟨by((repeat' first|exact LF|constructor);all_goals(exact Lz.int e3)),by((repeat' first|exact LF|constructor);all_goals(exact Lz.int e3)),by rfl⟩,?_⟩;rintro r o' c' ⟨rfl,rfl,rfl⟩;refine wh ?_;have e:gR b aO=(8*(r0+1)+aO,0):=by unfold gR;rw[←qH];simp only[h1,if_true,h2,if_false]
    rw[e];exact⟨[],[],_,_,_,t3,rfl,rfl,rfl⟩
  ·have h1:¬IntKind.u64.wrap (IntKind.u64.wrap (8*(if(1:Int)>IntKind.u64.wrap (b.tdiv 8)then 1 else IntKind.u64.wrap (b.tdiv 8)))+IntKind.u64.wrap aO)≤b:=h1;rw[←zY,IntWalk.u64_in (8*r0) om,IntWalk.u64_in aO om,IntWalk.u64_in _ om]at h1;refine wh ?_;refine sp ?_ ?_<;>intro h2
   ·have h2:(if(1:Int)>IntKind.u64.wrap (b.tdiv 8)then 1 else IntKind.u64.wrap (b.tdiv 8))≥1152921504606846976:=h2;rw[←zY]at h2;refine wh ?_;have e:gR b aO=(0,9):=by unfold gR;rw[←qH];simp only[h1,if_false,h2,if_true]
    rw[e];exact⟨[],[],_,_,_,t3,rfl,rfl,rfl⟩
   ·have h2:¬(if(1:Int)>IntKind.u64.wrap (b.tdiv 8)then 1 else IntKind.u64.wrap (b.tdiv 8))≥1152921504606846976:=h2;rw[←zY]at h2;refine wh ?_;refine⟨[],[],_,_,_,_,PL r0 aO om OJ,⟨by((repeat' first|exact LF|constructor);all_goals(exact Lz.int zY.symm)),by((repeat' first|exact LF|constructor);all_goals(exact Lz.int zY.symm)),by rfl⟩,?_⟩;rintro r o' c' ⟨rfl,rfl,rfl⟩;refine wh ?_;have e:gR b aO=(8*r0+aO,0):=by unfold gR;rw[←qH];simp only[h1,if_false,h2]
    rw[e];exact⟨[],[],_,_,_,t3,rfl,rfl,rfl⟩
@[reducible] def mI (me ah b ak:Int):aB:=⟨me,ah,1,b,ak,ak,[],[]⟩
def kf (a b:b8):Bool:=decide (a.kind=b.kind∧a.chain=b.chain∧a.aq=b.aq∧a.node=b.node)
theorem u4 {a b:b8}:kf a b=true↔a=b:=by
 obtain⟨a1,a2,a3,a4⟩:=a;obtain⟨b1,b2,b3,b4⟩:=b;simp[kf]
theorem tI (a b:b8):(nR (.int .i64 a.kind) (.int .i64 b.kind)&&(nR (.int .i64 a.chain) (.int .i64 b.chain)&&(nR (.int .u64 a.aq) (.int .u64 b.aq)&&(nR (.int .i64 a.node) (.int .i64 b.node)&&true))))=kf a b:=by
 rw[Bool.eq_iff_iff];simp[nR,kf]
@[reducible] def W8 (c:b8):Ob:=[(0,.cells [.s (.int .i64 c.kind),.s (.int .i64 c.chain),.s (.int .u64 c.aq),.s (.int .i64 c.node)])]
theorem PM (c:b8) (v:ai):VC E0 189 1 [.agg (eL v),.ptr 0 0] (W8 c) (RR (.s (.bool (kf (aA v) c))) 1 (W8 c)):=by
 refine en L0 Tryz.f189 ?_;refine sp ?_ ?_<;>intro h
 ·have h:kf (aA v) c=true:=(tI (aA v) c).symm.trans h;rw[h];refine wh ?_;exact⟨[],[some 0],_,_,_,t3,rfl,rfl,rfl⟩
 ·have h:kf (aA v) c=false:=by
   have:¬kf (aA v) c=true:=fun e=>h ((tI (aA v) c).trans e);simpa using this
  rw[h];refine wh ?_;exact⟨[],[some 0],_,_,_,t3,rfl,rfl,rfl⟩
theorem Tz (c:b8) (vs:List ai) (hl:vs.length<1000000):VC E0 173 1 [cQ vs,.cW 189 [] [.ptr 0 0]] (W8 c)
 (fun r o c'=>∃i:Int,r= .s (.int .i64 i)∧c'=1∧o=W8 c∧((i= -1∧∀v∈vs,kf (aA v) c=false)∨0≤i∧∃v∈vs,kf (aA v) c=true)):=by
 refine en L0 Tryz.f173 ?_;refine⟨fun k f o c'=>∃j:Nat,j≤vs.length∧k=vs.length - j∧(∀v∈vs.take j,kf (aA v) c=false)∧c'=1∧f=[(0,cQ vs),(1,.cW 189 [] [.ptr 0 0]),(7,.s (.int .i64 vs.length)),(8,.s (.int .i64 j))]∧o=W8 c,⟨vs.length,?_⟩,?_⟩
 ·refine⟨[],[some 0],?_⟩
  iterate 3 constructor
  refine⟨⟨?_,?_,?_⟩,⟨0,Nat.zero_le _,rfl,by simp,rfl,rfl,rfl⟩⟩
  all_goals(repeat' first|exact LF|constructor)
  all_goals first|exact Lz.of (by simp[goInt])|exact Lz.rfl
 ·rintro k f1 o1 c1 ⟨j,hj,rfl,hb,rfl,rfl,rfl⟩;refine wh ?_;refine sp ?_ ?_<;>intro h
  ·have h:j<vs.length:=by simpa using h
   refine wh ?_;refine jg h ?_;refine wh ?_;refine⟨[],[some 0],_,_,_,_,PM c vs[j],t3,?_⟩;rintro r o' c' ⟨rfl,rfl,rfl⟩;have bj:=True.intro;clear bj;cases hv:kf (aA vs[j]) c
   ·refine wh ?_;refine⟨vs.length - (j+1),?_,om⟩;refine⟨[],[some 0],?_⟩
    iterate 3 constructor
    refine⟨⟨?_,?_,?_⟩,⟨j+1,h,rfl,by intro v oH;rw[List.take_succ_eq_append_getElem h]at oH;rcases List.mem_append.1 oH with h1|h1;exact hb v h1;simp at h1;subst h1;exact hv,rfl,rfl,rfl⟩⟩
    all_goals(repeat' first|exact LF|constructor)
    all_goals exact Lz.rfl
   ·refine wh ?_;exact⟨[],[some 0],_,_,_,t3,(j:Int),rfl,rfl,rfl,.inr ⟨om,_,List.getElem_mem h,hv⟩⟩
  ·have h':j=vs.length:=by have:¬j<vs.length:=by simpa using h
                           omega
   subst h';rw[List.take_length]at hb;refine wh ?_;exact⟨[],[some 0],_,_,_,t3,-1,rfl,rfl,rfl,.inl ⟨rfl,hb⟩⟩
def sf (c:b8) (vs:List ai):Bool:=vs.any fun v=>kf (aA v) c
theorem Dp (c:b8) (vs:List ai) (hl:vs.length<1000000):VC E0 188 1 [cQ vs,.cW 189 [] [.ptr 0 0]] (W8 c) (RR (.s (.bool (sf c vs))) 1 (W8 c)):=by
 refine en L0 Tryz.f188 ?_;refine⟨[],[some 0],_,_,_,_,Tz c vs hl,t3,?_⟩;rintro r o' c' ⟨i,rfl,rfl,rfl,hi⟩;refine wh ?_;refine sp ?_ ?_<;>intro h
 ·have h:i≥0:=h;refine wh ?_;refine⟨[],[some 0],?_⟩
  iterate 3 constructor
  refine⟨⟨?_,?_,?_⟩,rfl,rfl,rfl⟩
  all_goals(repeat' first|exact LF|constructor)
  refine Lz.of (an (Eq.symm ?_));rcases hi with⟨e,_⟩|⟨_,v,hv,hs⟩
  ·omega
  ·exact List.any_eq_true.2 ⟨v,hv,hs⟩
 ·have h:¬i≥0:=h;refine wh ?_;refine⟨[],[some 0],?_⟩
  iterate 3 constructor
  refine⟨⟨?_,?_,?_⟩,rfl,rfl,rfl⟩
  all_goals(repeat' first|exact LF|constructor)
  refine Lz.of (an (Eq.symm ?_));rcases hi with⟨_,gJ⟩|⟨e,_⟩
  ·exact List.any_eq_false.2 fun v hv=>by rw[gJ v hv];simp
  ·omega
theorem FP (x:aB) (c:b8) (ho:ef x) (hn:x.cu≤100000):VC E0 133 3 [.ptr 0 0,Kh c] (qw x) (RR (.s (.bool (sf c (bf x)))) 3 (qw x)):=by
 have hlen:(bf x).length<1000000:=by have:=ho.len hn;simp[bf,ia];omega
 refine en L0 Tryz.f133 ?_;refine⟨[],[some 0,some 1,some 2],_,_,_,_,tH x (ho.ks hn) (by have:=ho.len hn;omega),t3,cw ?_⟩;refine⟨[],[some 3],_,_,_,_,Dp c (bf x) hlen,t3,cw ?_⟩;exact⟨[],[some 0,some 1,some 2],_,_,_,t3,rfl,rfl,rfl⟩
def aI (x:aB) (c:b8):aB×ai×Int:=
 if x.st≠2 then(x,cZ,12)else if c.check≠0 then(x,cZ,c.check)else if c.kind≠0∧sf c (bf x)=true then(x,cZ,8)
 else if x.eJ.length≥8∨x.cu≥512 then(x,cZ,9)else(gQ x c,nj (gQ x c) x.cu,0)
theorem II (x:aB) (c:b8) (ho:ef x) (hn:0≤x.cu∧x.cu≤100000):VC E0 95 3 [.ptr 0 0,Kh c] (qw x) (RR (.c4 [.agg (eL (aI x c).2.1),.s (.int .i64 (aI x c).2.2)]) 3 (qw (aI x c).1)):=by
 refine en L0 Tryz.f95 ?_;refine sp ?_ ?_<;>intro h1
 ·have h1:x.st≠2:=h1;have e:aI x c=(x,cZ,12):=by unfold aI;rw[if_pos h1]
  rw[e];refine wh ?_;exact⟨[],[some 0,some 1,some 2],_,_,_,t3,rfl,rfl,rfl⟩
 ·have h1:x.st=2:=Classical.not_not.1 h1;refine wh ?_;refine⟨[],[],_,_,_,_,lk c.kind c.chain c.aq c.node,t3,cw ?_⟩;refine sp ?_ ?_<;>intro h2
  ·have h2:c.check≠0:=h2;have e:aI x c=(x,cZ,c.check):=by unfold aI;rw[if_neg (fun h=>h h1),if_pos h2]
   rw[e];refine wh ?_;exact⟨[],[some 0,some 1,some 2],_,_,_,t3,rfl,rfl,rfl⟩
  ·have h2:c.check=0:=Classical.not_not.1 h2;refine wh ?_;refine sp ?_ ?_<;>intro h6
   ·have h6:c.kind≠0:=h6;refine wh ?_;refine⟨[],[some 0,some 1,some 2],_,_,_,_,FP x c ho hn.2,t3,?_⟩;rintro r o' c' ⟨rfl,rfl,rfl⟩;have bj:=True.intro;clear bj;cases h7:sf c (bf x)
    ·have h3:¬(c.kind≠0∧sf c (bf x)=true):=fun h=>by simp[h7]at h
     refine wh ?_;refine sp ?_ ?_<;>intro h4
     ·have h4:((x.eJ.map (j4 .i64 yW)).length:Int)≥8:=h4;rw[List.length_map]at h4;have e:aI x c=(x,cZ,9):=by unfold aI;rw[if_neg (fun h=>h h1),if_neg (fun h=>h h2),if_neg h3,if_pos (.inl om)]
      rw[e];refine wh ?_;exact⟨[],[some 0,some 1,some 2],_,_,_,t3,rfl,rfl,rfl⟩
     ·have h4:¬((x.eJ.map (j4 .i64 yW)).length:Int)≥8:=h4;rw[List.length_map]at h4;refine wh ?_;refine sp ?_ ?_<;>intro h5
      ·have h5:x.cu≥512:=h5;have e:aI x c=(x,cZ,9):=by unfold aI;rw[if_neg (fun h=>h h1),if_neg (fun h=>h h2),if_neg h3,if_pos (.inr h5)]
       rw[e];refine wh ?_;exact⟨[],[some 0,some 1,some 2],_,_,_,t3,rfl,rfl,rfl⟩
      ·have h5:¬x.cu≥512:=h5;have e:aI x c=(gQ x c,nj (gQ x c) x.cu,0):=by unfold aI;rw[if_neg (fun h=>h h1),if_neg (fun h=>h h2),if_neg h3,if_neg om]
       rw[e];refine wh ?_;refine⟨[],[some 0,some 1,some 2],_,_,_,_,Dn x c om,t3,cw ?_⟩;refine⟨[],[some 0,some 1,some 2],_,_,_,_,tG (gQ x c) x.cu,t3,cw ?_⟩;exact⟨[],[some 0,some 1,some 2],_,_,_,t3,rfl,rfl,rfl⟩
    ·have e:aI x c=(x,cZ,8):=by unfold aI;rw[if_neg (fun h=>h h1),if_neg (fun h=>h h2),if_pos ⟨h6,h7⟩]
     rw[e];refine wh ?_;exact⟨[],[some 0,some 1,some 2],_,_,_,t3,rfl,rfl,rfl⟩
   ·have h6:¬c.kind≠0:=h6;have h3:¬(c.kind≠0∧sf c (bf x)=true):=fun h=>h6 h.1;refine wh ?_;refine sp ?_ ?_<;>intro h4
    ·have h4:((x.eJ.map (j4 .i64 yW)).length:Int)≥8:=h4;rw[List.length_map]at h4;have e:aI x c=(x,cZ,9):=by unfold aI;rw[if_neg (fun h=>h h1),if_neg (fun h=>h h2),if_neg h3,if_pos (.inl om)]
     rw[e];refine wh ?_;exact⟨[],[some 0,some 1,some 2],_,_,_,t3,rfl,rfl,rfl⟩
    ·have h4:¬((x.eJ.map (j4 .i64 yW)).length:Int)≥8:=h4;rw[List.length_map]at h4;refine wh ?_;refine sp ?_ ?_<;>intro h5
     ·have h5:x.cu≥512:=h5;have e:aI x c=(x,cZ,9):=by unfold aI;rw[if_neg (fun h=>h h1),if_neg (fun h=>h h2),if_neg h3,if_pos (.inr h5)]
      rw[e];refine wh ?_;exact⟨[],[some 0,some 1,some 2],_,_,_,t3,rfl,rfl,rfl⟩
     ·have h5:¬x.cu≥512:=h5;have e:aI x c=(gQ x c,nj (gQ x c) x.cu,0):=by unfold aI;rw[if_neg (fun h=>h h1),if_neg (fun h=>h h2),if_neg h3,if_neg om]
      rw[e];refine wh ?_;refine⟨[],[some 0,some 1,some 2],_,_,_,_,Dn x c om,t3,cw ?_⟩;refine⟨[],[some 0,some 1,some 2],_,_,_,_,tG (gQ x c) x.cu,t3,cw ?_⟩;exact⟨[],[some 0,some 1,some 2],_,_,_,t3,rfl,rfl,rfl⟩
def aC (x:aB) (b slot aO:Int):aB×ai×Bool:=
 if(x.st=2∧x.b=b)∧1≤aO∧aO≤x.ah then
  (match bH x.eJ slot with
  |none=>(x,cZ,false)
  |some p=>if l6 (bZ p.2 [aO]) x.ah=true then({x with eJ:=FI (g5 x.eJ slot (p.1,bZ p.2 [aO])) slot},.of slot x.b p.1,true)else({x with eJ:=g5 x.eJ slot (p.1,bZ p.2 [aO])},cZ,false))
 else(x,cZ,false)
theorem FQ (x:aB) (b slot aO:Int) (hm:m5 x.ah) (kG:∀e∈x.eJ,tu e.2.2) (tW:(aP x.eJ).Nodup):
 VC E0 38 3 [.ptr 0 0,.s (.int .u64 b),.s (.int .i64 slot),.s (.int .i64 aO)] (qw x) (RR (.c4 [.agg (eL (aC x b slot aO).2.1),.s (.bool (aC x b slot aO).2.2)]) 3 (qw (aC x b slot aO).1)):=by
 refine en L0 Tryz.f38 ?_;refine⟨[],[some 0,some 1,some 2],_,_,_,_,PG x 2 b,t3,?_⟩;rintro r o' c' ⟨rfl,rfl,rfl⟩;have bj:=True.intro;clear bj;cases h1:decide (x.st=2∧x.b=b)
 ·have e:aC x b slot aO=(x,cZ,false):=by unfold aC;rw[if_neg fun h=>of_decide_eq_false h1 h.1]
  rw[e];refine wh ?_;exact⟨[],[some 0,some 1,some 2],_,_,_,t3,rfl,rfl,rfl⟩
 ·refine wh ?_;refine⟨[],[some 0,some 1,some 2],_,_,_,_,PH x aO,t3,?_⟩;rintro r o' c' ⟨rfl,rfl,rfl⟩;have bj:=True.intro;clear bj;cases h2:decide (1≤aO∧aO≤x.ah)
  ·have e:aC x b slot aO=(x,cZ,false):=by unfold aC;rw[if_neg fun h=>of_decide_eq_false h2 h.2]
   rw[e];refine wh ?_;exact⟨[],[some 0,some 1,some 2],_,_,_,t3,rfl,rfl,rfl⟩
  ·have hw:m5 aO:=by have:=of_decide_eq_true h2;unfold m5 at*;omega
   refine wh ?_;have oz:=l9 .i64 .i64 yW slot x.eJ;cases hx:bH x.eJ slot with
   |none=>
    have e:aC x b slot aO=(x,cZ,false):=by unfold aC;rw[if_pos ⟨of_decide_eq_true h1,of_decide_eq_true h2⟩,hx]
    rw[hx]at oz;refine⟨_,oz,?_⟩;rw[e];refine wh ?_;exact⟨[],[some 0,some 1,some 2],_,_,_,t3,rfl,rfl,rfl⟩
   |some p=>
    have hpe:tu p.2:=kG _ ((eI tW).1 hx);rw[hx]at oz;refine⟨_,oz,?_⟩;refine wh ?_;refine⟨[11],[],_,_,_,_,Dl p.2 [aO] hpe (by simpa using hw) (by simp),t3,cw ?_⟩;have hwe:tu (bZ p.2 [aO]):=la hpe (by simpa using hw);have m7:=pJ .i64 yW slot (p.1,bZ p.2 [aO]) x.eJ;refine⟨[],[],_,_,_,_,uX (bZ p.2 [aO]) x.ah hwe.1 hm,t3,?_⟩;rintro r o' c' ⟨rfl,rfl,rfl⟩;have bj:=True.intro;clear bj;cases he:l6 (bZ p.2 [aO]) x.ah
    ·have e:aC x b slot aO=({x with eJ:=g5 x.eJ slot (p.1,bZ p.2 [aO])},cZ,false):=by unfold aC;rw[if_pos ⟨of_decide_eq_true h1,of_decide_eq_true h2⟩,hx];simp only;rw[if_neg (by simp[he])]
     rw[e];refine wh ?_;refine⟨[],[some 0,some 1,some 2],_,_,_,tx ?_,rfl,rfl,rfl⟩;exact Lz.of m7
    ·have e:aC x b slot aO=({x with eJ:=FI (g5 x.eJ slot (p.1,bZ p.2 [aO])) slot},.of slot x.b p.1,true):=by unfold aC;rw[if_pos ⟨of_decide_eq_true h1,of_decide_eq_true h2⟩,hx];simp only;rw[if_pos he]
     have hvo:nj {x with eJ:=g5 x.eJ slot (p.1,bZ p.2 [aO])} slot= .of slot x.b p.1:=by simp[nj,qu]
     rw[e];refine wh ?_;refine⟨[],[some 0,some 1,some 2],_,_,_,_,tG {x with eJ:=g5 x.eJ slot (p.1,bZ p.2 [aO])} slot,⟨by((repeat' first|exact LF|constructor);all_goals(first|exact Lz.of m7|exact m7)),by((repeat' first|exact LF|constructor);all_goals(first|exact Lz.of m7|exact m7)),by rfl⟩,?_⟩;rintro r o' c' ⟨rfl,rfl,rfl⟩;refine wh ?_;rw[hvo];refine⟨[],[some 0,some 1,some 2],_,_,_,tx ?_,rfl,rfl,rfl⟩;exact Lz.of (PF .i64 .i64 yW slot _)
def dy (x:aB) (b:Int):aB×Bool:=if x.st=0∨b≤x.b then(x,false)else({x with st:=0,eJ:=[],bk:=[]},true)
theorem Mb (x:aB) (b:Int):VC E0 42 3 [.ptr 0 0,.s (.int .u64 b)] (qw x) (RR (.s (.bool (dy x b).2)) 3 (qw (dy x b).1)):=by
 refine en L0 Tryz.f42 ?_;refine sp ?_ ?_<;>intro h1
 ·have h1:x.st=0:=h1;have e:dy x b=(x,false):=by unfold dy;rw[if_pos (.inl h1)]
  rw[e];refine wh ?_;exact⟨[],[some 0,some 1,some 2],_,_,_,t3,rfl,rfl,rfl⟩
 ·have h1:¬x.st=0:=h1;refine wh ?_;refine sp ?_ ?_<;>intro h2
  ·have h2:b≤x.b:=h2;have e:dy x b=(x,false):=by unfold dy;rw[if_pos (.inr h2)]
   rw[e];refine wh ?_;exact⟨[],[some 0,some 1,some 2],_,_,_,t3,rfl,rfl,rfl⟩
  ·have h2:¬b≤x.b:=h2;have e:dy x b=({x with st:=0,eJ:=[],bk:=[]},true):=by unfold dy;rw[if_neg (by rintro(h|h);exact h1 h;exact h2 h)]
   rw[e];refine wh ?_;exact⟨[],[some 0,some 1,some 2],_,_,_,t3,rfl,rfl,rfl⟩
end Go.M
namespace Go.M
open Go
end Go.M
namespace Go.M
open Go Go.Proofs
set_option maxRecDepth 100000
set_option maxHeartbeats 4000000
abbrev Prp:=Int×b8×List Int
def Dq (a b:Int):Int:=if b>a then b else a
def aY (x:aB) (above ak:Int):Int×Int:=if ak<0∨ak>512 then(0,1)else if(gR (Dq above x.b) x.me).2≠0 then(0,(gR (Dq above x.b) x.me).2)else gR (Dq above x.b) x.me
theorem IJ {a b:Int} (ha:0≤a∧a≤18446744073709551615) (hb:0≤b∧b≤18446744073709551615):0≤Dq a b∧Dq a b≤18446744073709551615:=by unfold Dq;split<;>assumption
@[reducible] def i0:TV:=.s (.int .i64 0)
set_option maxHeartbeats 8000000
def inS (s:Int) (v:ai):Bool:=decide (s≤v.slot)&&decide (v.slot<512)
@[reducible] def mL (me ah:Int):aB:=⟨me,ah,0,0,0,0,[],[]⟩
theorem Bz (x:aB) (above ak:Int) (ha:0≤above∧above≤18446744073709551615) (hb:0≤x.b∧x.b≤18446744073709551615) (hm:m5 x.me):
 VC E0 52 3 [.ptr 0 0,.s (.int .u64 above),.s (.int .i64 ak)] (qw x) (fun r o c=>r= .c4 [.s (.int .u64 (aY x above ak).1),.s (.int .i64 (aY x above ak).2)]∧
  (((aY x above ak).2≠0∧c=3∧o=qw x)∨((aY x above ak).2=0∧c=5∧o=[(0,kc (mI x.me x.ah (aY x above ak).1 ak) 3 4),(3,ic (mI x.me x.ah (aY x above ak).1 ak)),(4,jS (mI x.me x.ah (aY x above ak).1 ak))]))):=by
 refine en L0 Tryz.f52 ?_;refine sp ?_ ?_<;>intro a1
 ·have a1:ak<0:=a1;have e:aY x above ak=(0,1):=by unfold aY;rw[if_pos (.inl a1)]
  rw[e];refine wh ?_;exact⟨[],[some 0,some 1,some 2],_,_,_,t3,rfl,.inl ⟨by decide,rfl,rfl⟩⟩
 ·have a1:¬ak<0:=a1;refine wh ?_;refine sp ?_ ?_<;>intro a2
  ·have a2:ak>512:=a2;have e:aY x above ak=(0,1):=by unfold aY;rw[if_pos (.inr a2)]
   rw[e];refine wh ?_;exact⟨[],[some 0,some 1,some 2],_,_,_,t3,rfl,.inl ⟨by decide,rfl,rfl⟩⟩
  ·have a2:¬ak>512:=a2;refine wh ?_;refine⟨[],[],_,_,_,_,Kk (Dq above (x).b) (x).me (IJ ha hb) hm,⟨by((repeat' first|exact LF|constructor);all_goals(exact Lz.rfl)),by((repeat' first|exact LF|constructor);all_goals(exact Lz.rfl)),by rfl⟩,?_⟩;rintro r o' c' ⟨rfl,rfl,rfl⟩;refine wh ?_;refine sp ?_ ?_<;>intro a3
   ·have a3:(gR (Dq above (x).b) (x).me).2≠0:=a3;have e:aY x above ak=(0,(gR (Dq above (x).b) (x).me).2):=by unfold aY;rw[if_neg om,if_pos a3]
    rw[e];refine wh ?_;exact⟨[],[some 0,some 1,some 2],_,_,_,t3,rfl,.inl ⟨a3,rfl,rfl⟩⟩
   ·have a3:(gR (Dq above (x).b) (x).me).2=0:=Classical.not_not.1 a3;have e:aY x above ak=gR (Dq above (x).b) (x).me:=by unfold aY;rw[if_neg om,if_neg (fun h=>h a3)]
    rw[e];refine wh ?_;refine⟨[],[some 0,some 1,some 2,some 3,some 4],?_⟩
    iterate 3 constructor
    refine⟨⟨?_,?_,?_⟩,rfl,.inr ⟨a3,rfl,rfl⟩⟩
    all_goals(repeat' first|exact LF|constructor)
    all_goals first|exact Lz.rfl|exact Lz.int a3.symm
theorem IK (me ah:Int) (above ak:Int) (ha:0≤above∧above≤18446744073709551615) (hm:m5 me):
 VC E0 52 1 [.ptr 0 0,.s (.int .u64 above),.s (.int .i64 ak)] [(0,ke me ah)] (fun r o c=>r= .c4 [.s (.int .u64 (aY (mL me ah) above ak).1),.s (.int .i64 (aY (mL me ah) above ak).2)]∧
  (((aY (mL me ah) above ak).2≠0∧c=1∧o=[(0,ke me ah)])∨((aY (mL me ah) above ak).2=0∧c=3∧o=qw (mI me ah (aY (mL me ah) above ak).1 ak)))):=by
 have hb:0≤(mL me ah).b∧(mL me ah).b≤18446744073709551615:=by simp
 refine en L0 Tryz.f52 ?_;refine sp ?_ ?_<;>intro a1
 ·have a1:ak<0:=a1;have e:aY (mL me ah) above ak=(0,1):=by unfold aY;rw[if_pos (.inl a1)]
  rw[e];refine wh ?_;exact⟨[],[some 0],_,_,_,t3,rfl,.inl ⟨by decide,rfl,rfl⟩⟩
 ·have a1:¬ak<0:=a1;refine wh ?_;refine sp ?_ ?_<;>intro a2
  ·have a2:ak>512:=a2;have e:aY (mL me ah) above ak=(0,1):=by unfold aY;rw[if_pos (.inr a2)]
   rw[e];refine wh ?_;exact⟨[],[some 0],_,_,_,t3,rfl,.inl ⟨by decide,rfl,rfl⟩⟩
  ·have a2:¬ak>512:=a2;refine wh ?_;refine⟨[],[],_,_,_,_,Kk (Dq above ((mL me ah)).b) ((mL me ah)).me (IJ ha hb) hm,⟨by((repeat' first|exact LF|constructor);all_goals(exact Lz.rfl)),by((repeat' first|exact LF|constructor);all_goals(exact Lz.rfl)),by rfl⟩,?_⟩;rintro r o' c' ⟨rfl,rfl,rfl⟩;refine wh ?_;refine sp ?_ ?_<;>intro a3
   ·have a3:(gR (Dq above ((mL me ah)).b) ((mL me ah)).me).2≠0:=a3;have e:aY (mL me ah) above ak=(0,(gR (Dq above ((mL me ah)).b) ((mL me ah)).me).2):=by unfold aY;rw[if_neg om,if_pos a3]
    rw[e];refine wh ?_;exact⟨[],[some 0],_,_,_,t3,rfl,.inl ⟨a3,rfl,rfl⟩⟩
   ·have a3:(gR (Dq above ((mL me ah)).b) ((mL me ah)).me).2=0:=Classical.not_not.1 a3;have e:aY (mL me ah) above ak=gR (Dq above ((mL me ah)).b) ((mL me ah)).me:=by unfold aY;rw[if_neg om,if_neg (fun h=>h a3)]
    rw[e];refine wh ?_;refine⟨[],[some 0,some 1,some 2],?_⟩
    iterate 3 constructor
    refine⟨⟨?_,?_,?_⟩,rfl,.inr ⟨a3,rfl,rfl⟩⟩
    all_goals(repeat' first|exact LF|constructor)
    all_goals first|exact Lz.rfl|exact Lz.int a3.symm
theorem PN (me ah s b:Int) (hs:s≠0):VC E0 87 1 [.ptr 0 0,.s (.int .i64 s),.s (.int .u64 b)] [(0,ke me ah)] (RR (.s (.bool false)) 1 [(0,ke me ah)]):=by
 refine en L0 Tryz.f87 ?_;refine sp ?_ ?_<;>intro h
 ·have h:0=s:=h;exact absurd h.symm hs
 ·refine wh ?_;exact⟨[],[some 0],_,_,_,t3,rfl,rfl,rfl⟩
theorem FR (me ah b w:Int) (vs:List ai):VC E0 86 1 [.ptr 0 0,.s (.int .u64 b),.s (.int .i64 w),cQ vs] [(0,ke me ah)] (RR (.c4 [cQ [],.s (.bool false)]) 1 [(0,ke me ah)]):=by
 refine en L0 Tryz.f86 ?_;refine⟨[],[some 0],_,_,_,_,PN me ah 1 b (by decide),t3,cw ?_⟩;exact⟨[],[some 0],_,_,_,t3,rfl,rfl,rfl⟩
theorem Dr (me ah b s w:Int):VC E0 38 1 [.ptr 0 0,.s (.int .u64 b),.s (.int .i64 s),.s (.int .i64 w)] [(0,ke me ah)] (RR (.c4 [.agg (eL cZ),.s (.bool false)]) 1 [(0,ke me ah)]):=by
 refine en L0 Tryz.f38 ?_;refine⟨[],[some 0],_,_,_,_,PN me ah 2 b (by decide),t3,cw ?_⟩;exact⟨[],[some 0],_,_,_,t3,rfl,rfl,rfl⟩
theorem FT (me ah:Int) (c:b8):VC E0 95 1 [.ptr 0 0,Kh c] [(0,ke me ah)] (RR (.c4 [.agg (eL cZ),.s (.int .i64 12)]) 1 [(0,ke me ah)]):=by
 refine en L0 Tryz.f95 ?_
 ((first|(refine⟨fun h_=>?_,fun h_=>?_⟩)|(refine cg (fun h_=>?_) (fun h_=>?_))|(refine cd (fun h_=>?_) (fun h_=>?_)))<;>first|(exfalso;revert h_;decide;done)|(exact absurd rfl h_)|(have bj:=True.intro;clear bj;(conv=>whnf)))
 exact⟨[],[some 0],_,_,_,t3,rfl,rfl,rfl⟩
theorem IL (me ah b:Int):VC E0 42 1 [.ptr 0 0,.s (.int .u64 b)] [(0,ke me ah)] (RR (.s (.bool false)) 1 [(0,ke me ah)]):=by
 refine en L0 Tryz.f42 ?_
 ((first|(refine⟨fun h_=>?_,fun h_=>?_⟩)|(refine cg (fun h_=>?_) (fun h_=>?_))|(refine cd (fun h_=>?_) (fun h_=>?_)))<;>first|(exfalso;revert h_;decide;done)|(exact absurd rfl h_)|(have bj:=True.intro;clear bj;(conv=>whnf)))
 exact⟨[],[some 0],_,_,_,t3,rfl,rfl,rfl⟩
theorem Mc:VC E0 97 0 [.s (.map none)] [] (fun r o c=>r= .cW 136 [] [.ptr 0 0]∧c=1∧o=[(0,.cells [.s (.map none)])]):=by
 refine en L0 Tryz.f97 ?_;exact⟨[],[some 0],_,_,_,t3,rfl,rfl,rfl⟩
theorem IM:VC E0 96 1 [.cW 136 [] [.ptr 0 0]] [(0,.cells [.s (.map none)])] (fun r o c=>r= .sl 0 [] true∧c=1∧o=[(0,.cells [.s (.map none)])]):=
 VC.LS (E:=E0) (g:=96) (ky:=[238,136,175]) Bx (fun _ _=>rfl) rfl
theorem PO (me ah:Int):VC E0 49 1 [.ptr 0 0] [(0,ke me ah)] (RR (cQ []) 1 [(0,ke me ah)]):=by
 refine en L0 Tryz.f49 ?_;refine⟨[],[],_,_,_,_,Mc,t3,cw ?_⟩;refine⟨[],[some 1],_,_,_,_,IM,t3,cw ?_⟩;refine⟨fun k f o c=>k=0∧c=1∧f=[(0,.ptr 0 0),(3,.sl 0 [] true),(14,.s (.int .i64 0)),(15,.s (.int .i64 0))]∧o=[(0,ke me ah)],⟨0,?_⟩,?_⟩
 ·exact⟨[],[some 0],_,_,_,t3,⟨rfl,rfl,rfl,rfl⟩⟩
 ·rintro k f1 o1 c1 ⟨rfl,rfl,rfl,rfl⟩;refine wh ?_
  ((first|(refine⟨fun h_=>?_,fun h_=>?_⟩)|(refine cg (fun h_=>?_) (fun h_=>?_))|(refine cd (fun h_=>?_) (fun h_=>?_)))<;>first|(exfalso;revert h_;decide;done)|(exact absurd rfl h_)|(have bj:=True.intro;clear bj;(conv=>whnf)))
  exact⟨[],[some 0],_,_,_,t3,rfl,rfl,rfl⟩
theorem nk {n m:Int} {v:ai}:∀{es:List (Int×ai)},fK (mG es n v) m=if m=n then some v else fK es m
 |[]=>by simp[mG,fK]
 |e::es=>by
  have ih:=nk (n:=n) (m:=m) (v:=v) (es:=es);unfold mG;by_cases he:n=e.1
  ·simp only[he,if_true,fK];by_cases hm:m=e.1<;>simp[hm]
  ·simp only[he,if_false,fK,ih];by_cases hm:m=e.1
   ·rw[if_pos hm,if_pos hm,if_neg];rintro rfl;exact he hm
   ·rw[if_neg hm,if_neg hm]
def better (o:Option ai) (v:ai):Option ai:=match o with
 |none=>some v
 |some w=>if v.ao>w.ao then some v else some w
theorem FU {es:List (Int×ai)} {v:ai} {n:Int}:fK (fX es v) n=if n=v.slot then better (fK es n) v else fK es n:=by
 unfold fX;by_cases hn:n=v.slot
 ·subst hn;rw[if_pos rfl];cases h:fK es v.slot with
  |none=>simp[nk,better]
  |some w=>
   simp only[better];split
   ·simp[nk]
   ·exact h
 ·rw[if_neg hn];split
  ·rw[nk,if_neg hn]
  ·split
   ·rw[nk,if_neg hn]
   ·rfl
def okS (ak n:Int):Prop:=ak≤n∧n<512
instance (a b:Int):Decidable (okS a b):=inferInstanceAs (Decidable (_∧_))
theorem PQ {ak:Int} {v:ai}:(!(se ak v))=true↔okS ak v.slot:=by
 unfold se okS;simp
theorem PR {α:Type} {P:List α→Prop} (h0:P []) (h1:∀l a,P l→P (l++[a])) (l:List α):P l:=by
 have:∀l:List α,P l.reverse:=by
  intro l
  induction l with
  |nil=>exact h0
  |cons a l ih=>rw[List.reverse_cons];exact h1 _ _ ih
 have:=this l.reverse
 rwa [List.reverse_reverse]at this
theorem Md {l:List (List ai)} (hl:∀x∈l,∀v∈x,vR v.slot) {v:ai}:v∈ee l↔fK (fY l.flatten) v.slot=some v:=by
 have hk:=(lp (l:=l.flatten) (fun v hv=>by obtain⟨x,hx,hv⟩:=List.mem_flatten.1 hv;exact hl x hx v hv)).1;unfold ee;rw[lh hk.mv,sb hk.mv.nd]
theorem PS {l:List (List ai)} (hl:∀x∈l,∀v∈x,vR v.slot):SS (ee l):=
 tD (lp (l:=l.flatten) (fun v hv=>by obtain⟨x,hx,hv⟩:=List.mem_flatten.1 hv;exact hl x hx v hv)).1.mv
def adW (p:Prp):Int×b8×Nat:=(p.1,p.2.1,bZ 0 p.2.2)
theorem FV {x:aB} (h:ef x) (hn:0≤x.cu):∀m:Nat,(iq x m).eJ=x.eJ++(List.range m).map fun(k:Nat)=>(x.cu+k,aF,0)
 |0=>by simp[iq]
 |m+1=>by
  have ih:=FV h hn m;have ho:=h.iq hn m;have hx:=lq x m;have:(iq x m).cu∉aP (iq x m).eJ:=fun hm=>by have:=ho.pI _ hm;omega
  show g5 (iq x m).eJ (iq x m).cu (aF,0)=_;rw[ni this,ih,hx,List.range_succ,List.map_append,List.append_assoc];rfl
theorem BA (x:aB):∀m,iq x m={x with eJ:=(iq x m).eJ,cu:=(iq x m).cu}
 |0=>rfl
 |m+1=>by
  have:=BA x m;show gQ (iq x m) aF=_;rw[this];rfl
structure TA (x:aB) (aO:List Int) (eg:List (List ai)) (L:List Prp) (fl:Bool):Prop where
 mm:m5 x.ah
 me:1≤x.me∧x.me≤x.ah
 b:0≤x.b∧x.b≤18446744073709551615
 ak:0≤x.ak∧x.ak≤512
 cu:x.ak≤x.cu∧x.cu≤512
 cm:fh x
 op:ef x
 wk:aO=aP x.bk
 vl:eg.length=aO.length
 agD:∀w∈aO,1≤w∧w≤x.ah
 cz:x.bk=(aO.zip eg).map fun p=>(p.1,yX x.ak p.2)
 v40:∀l∈eg,l.length≤600∧∀v∈l,vR v.slot
 ol:x.eJ=L.map adW
 ris:(aP x.eJ).Pairwise (· <·)
 wl:∀p∈L,(∀y∈p.2.2,m5 y)∧p.2.2.Nodup
 s1:x.st=1→x.cu=x.ak∧L=[]∧fl=true
theorem TA.look {x:aB} {aO:List Int} {eg:List (List ai)} {L:List Prp} {fl:Bool} (h:TA x aO eg L fl) {p:Prp} (hp:p∈L):bH x.eJ p.1=some (p.2.1,bZ 0 p.2.2):=by
 rw[eI h.op.nd,h.ol];exact List.mem_map.2 ⟨p,hp,rfl⟩
theorem FW (n b:Int) (c:b8):aA (.of n b c)=c:=rfl
theorem TA.len {x:aB} {aO:List Int} {eg:List (List ai)} {L:List Prp} {fl:Bool} (h:TA x aO eg L fl):x.eJ.length=L.length:=by rw[h.ol,List.length_map]
abbrev Acp:=Int×List (Int×ai)
@[reducible] def aaS (p:aB×Bool):List TV:=match p.2 with
 |true=>[.s (.int .i64 p.1.me),.s (.int .i64 p.1.ah),.s (.int .i64 p.1.st),.s (.int .u64 p.1.b),.s (.int .i64 p.1.ak),.s (.int .i64 p.1.cu),.own (ic p.1),.own (jS p.1)]
 |false=>[.s (.int .i64 p.1.me),.s (.int .i64 p.1.ah),.s (.int .i64 0),.s (.int .u64 0),.s (.int .i64 0),.s (.int .i64 0),.s (.map none),.s (.map none)]
@[reducible] def ie (p:aB×Bool):TO:=.cells (aaS p)
@[reducible] def FX (q:Acp):TO:=.cells [.s (.int .u64 q.1),.own (tB q.2)]
def PX (p:aB×Bool):Prop:=p.2=false→∃me ms,p.1=mL me ms
theorem FY (p:aB×Bool) (hp:PX p) (b aO:Int) (vs:List ai) (hc:fh p.1) (ho:ef p.1) (hm:m5 p.1.ah) (hl:vs.length≤600) (hv:∀v∈vs,vR v.slot) (hn:0≤p.1.cu∧p.1.cu≤512):
 VC E0 86 1 [.ptr 0 0,.s (.int .u64 b),.s (.int .i64 aO),cQ vs] [(0,ie p)] (RR (.c4 [cQ (bR p.1 b aO vs).2.1,.s (.bool (bR p.1 b aO vs).2.2)]) 1 [(0,ie ((bR p.1 b aO vs).1,p.2))]):=by
 obtain⟨x,f⟩:=p;cases f with
 |false=>
  obtain⟨me,ms,rfl⟩:=hp rfl;have e:bR (mL me ms) b aO vs=(mL me ms,[],false):=by unfold bR;rw[if_neg fun h=>absurd (show(0:Int)=1 from h.1.1) (by decide)]
  dsimp only
  rw[e];exact FR me ms b aO vs
 |true=>
  refine VC.told (R:=RR (.c4 [cQ (bR x b aO vs).2.1,.s (.bool (bR x b aO vs).2.2)]) 6 (qw (bR x b aO vs).1)) (VC.ld (m0:=0) rfl ?_) ?_
  ·show iU false (VC E0) _ _ [(1,ic x),(2,jS x),(0,kc x 1 2)] 3 _;refine⟨[],[some 0,some 1,some 2],_,_,_,_,IH x b aO vs hc ho hm hl hv hn,t3,?_⟩;rintro r o' c' ⟨rfl,rfl,rfl⟩;exact⟨rfl,rfl,rfl⟩
  ·rintro r o' c' ⟨rfl,rfl,rfl⟩;exact⟨[],[some 0],_,_,_,t3,rfl,rfl,rfl⟩
theorem FZ (p:aB×Bool) (hp:PX p) (c:b8) (ho:ef p.1) (hn:0≤p.1.cu∧p.1.cu≤512):
 VC E0 95 1 [.ptr 0 0,Kh c] [(0,ie p)] (RR (.c4 [.agg (eL (aI p.1 c).2.1),.s (.int .i64 (aI p.1 c).2.2)]) 1 [(0,ie ((aI p.1 c).1,p.2))]):=by
 obtain⟨x,f⟩:=p;cases f with
 |false=>
  obtain⟨me,ms,rfl⟩:=hp rfl;have e:aI (mL me ms) c=(mL me ms,cZ,12):=by unfold aI;rw[if_pos (show(0:Int)≠2 by decide)]
  dsimp only
  rw[e];exact FT me ms c
 |true=>
  have gg:=II x c ho ⟨hn.1,by have:=hn.2;dsimp only at this;omega⟩;refine VC.told (R:=RR (.c4 [.agg (eL (aI x c).2.1),.s (.int .i64 (aI x c).2.2)]) 6 (qw (aI x c).1)) (VC.ld (m0:=0) rfl ?_) ?_
  ·show iU false (VC E0) _ _ [(1,ic x),(2,jS x),(0,kc x 1 2)] 3 _;refine⟨[],[some 0,some 1,some 2],_,_,_,_,gg,t3,?_⟩;rintro r o' c' ⟨rfl,rfl,rfl⟩;exact⟨rfl,rfl,rfl⟩
  ·rintro r o' c' ⟨rfl,rfl,rfl⟩;exact⟨[],[some 0],_,_,_,t3,rfl,rfl,rfl⟩
theorem Ds (p:aB×Bool) (hp:PX p) (b slot aO:Int) (hm:m5 p.1.ah) (kG:∀e∈p.1.eJ,tu e.2.2) (tW:(aP p.1.eJ).Nodup):
 VC E0 38 1 [.ptr 0 0,.s (.int .u64 b),.s (.int .i64 slot),.s (.int .i64 aO)] [(0,ie p)] (RR (.c4 [.agg (eL (aC p.1 b slot aO).2.1),.s (.bool (aC p.1 b slot aO).2.2)]) 1 [(0,ie ((aC p.1 b slot aO).1,p.2))]):=by
 obtain⟨x,f⟩:=p;cases f with
 |false=>
  obtain⟨me,ms,rfl⟩:=hp rfl;have e:aC (mL me ms) b slot aO=(mL me ms,cZ,false):=by unfold aC;rw[if_neg fun h=>absurd (show(0:Int)=2 from h.1.1) (by decide)]
  dsimp only
  rw[e];exact Dr me ms b slot aO
 |true=>
  have gg:=FQ x b slot aO hm kG tW;refine VC.told (R:=RR (.c4 [.agg (eL (aC x b slot aO).2.1),.s (.bool (aC x b slot aO).2.2)]) 6 (qw (aC x b slot aO).1)) (VC.ld (m0:=0) rfl ?_) ?_
  ·show iU false (VC E0) _ _ [(1,ic x),(2,jS x),(0,kc x 1 2)] 3 _;refine⟨[],[some 0,some 1,some 2],_,_,_,_,gg,t3,?_⟩;rintro r o' c' ⟨rfl,rfl,rfl⟩;exact⟨rfl,rfl,rfl⟩
  ·rintro r o' c' ⟨rfl,rfl,rfl⟩;exact⟨[],[some 0],_,_,_,t3,rfl,rfl,rfl⟩
theorem lr (p:aB×Bool) (hp:PX p) (b:Int):
 VC E0 42 1 [.ptr 0 0,.s (.int .u64 b)] [(0,ie p)] (RR (.s (.bool (dy p.1 b).2)) 1 [(0,ie ((dy p.1 b).1,p.2))]):=by
 obtain⟨x,f⟩:=p;cases f with
 |false=>
  obtain⟨me,ms,rfl⟩:=hp rfl;have e:dy (mL me ms) b=(mL me ms,false):=by unfold dy;rw[if_pos (.inl rfl)]
  dsimp only
  rw[e];exact IL me ms b
 |true=>
  have gg:=Mb x b;refine VC.told (R:=RR (.s (.bool (dy x b).2)) 6 (qw (dy x b).1)) (VC.ld (m0:=0) rfl ?_) ?_
  ·show iU false (VC E0) _ _ [(1,ic x),(2,jS x),(0,kc x 1 2)] 3 _;refine⟨[],[some 0,some 1,some 2],_,_,_,_,gg,t3,?_⟩;rintro r o' c' ⟨rfl,rfl,rfl⟩;exact⟨rfl,rfl,rfl⟩
  ·rintro r o' c' ⟨rfl,rfl,rfl⟩;exact⟨[],[some 0],_,_,_,t3,rfl,rfl,rfl⟩
def mJ (p:aB×Bool) (above ak:Int):aB×Bool:=if(aY p.1 above ak).2=0 then(mI p.1.me p.1.ah (aY p.1 above ak).1 ak,true)else p
theorem BB (p:aB×Bool) (hp:PX p) (above ak:Int) (ha:0≤above∧above≤18446744073709551615) (hb:0≤p.1.b∧p.1.b≤18446744073709551615) (hm:m5 p.1.me):
 VC E0 52 1 [.ptr 0 0,.s (.int .u64 above),.s (.int .i64 ak)] [(0,ie p)] (RR (.c4 [.s (.int .u64 (aY p.1 above ak).1),.s (.int .i64 (aY p.1 above ak).2)]) 1 [(0,ie (mJ p above ak))]):=by
 obtain⟨x,f⟩:=p;unfold mJ;cases f with
 |false=>
  obtain⟨me,ms,rfl⟩:=hp rfl;refine VC.told (IK me ms above ak ha hm) ?_;rintro r o' c' ⟨rfl,⟨he,rfl,rfl⟩|⟨he,rfl,rfl⟩⟩
  ·dsimp only
   rw[if_neg he];exact⟨[],[some 0],_,_,_,t3,rfl,rfl,rfl⟩
  ·dsimp only
   rw[if_pos he];exact⟨[],[some 0],_,_,_,t3,rfl,rfl,rfl⟩
 |true=>
  by_cases he:(aY x above ak).2=0
  ·refine VC.told (R:=fun r o c=>r= .c4 [.s (.int .u64 (aY x above ak).1),.s (.int .i64 (aY x above ak).2)]∧c=8∧o=[(0,kc (mI x.me x.ah (aY x above ak).1 ak) 6 7),(6,ic (mI x.me x.ah (aY x above ak).1 ak)),(7,jS (mI x.me x.ah (aY x above ak).1 ak))]) (VC.ld (m0:=0) rfl ?_) ?_
   ·show iU false (VC E0) _ _ [(1,ic x),(2,jS x),(0,kc x 1 2)] 3 _;refine⟨[],[some 0,some 1,some 2],_,_,_,_,Bz x above ak ha hb hm,t3,?_⟩;rintro r o' c' ⟨rfl,⟨xT,rfl,rfl⟩|⟨xT,rfl,rfl⟩⟩
    ·exact absurd he xT
    ·exact⟨rfl,rfl,rfl⟩
   ·rintro r o' c' ⟨rfl,rfl,rfl⟩;dsimp only
    rw[if_pos he];exact⟨[],[some 0],_,_,_,t3,rfl,rfl,rfl⟩
  ·refine VC.told (R:=RR (.c4 [.s (.int .u64 (aY x above ak).1),.s (.int .i64 (aY x above ak).2)]) 6 (qw x)) (VC.ld (m0:=0) rfl ?_) ?_
   ·show iU false (VC E0) _ _ [(1,ic x),(2,jS x),(0,kc x 1 2)] 3 _;refine⟨[],[some 0,some 1,some 2],_,_,_,_,Bz x above ak ha hb hm,t3,?_⟩;rintro r o' c' ⟨rfl,⟨xT,rfl,rfl⟩|⟨xT,rfl,rfl⟩⟩
    ·exact⟨rfl,rfl,rfl⟩
    ·exact absurd xT he
   ·rintro r o' c' ⟨rfl,rfl,rfl⟩;dsimp only
    rw[if_neg he];exact⟨[],[some 0],_,_,_,t3,rfl,rfl,rfl⟩
theorem F4 (q:Acp) (b ak:Int) (gl:k8 (q.2.map (·.1))) (pj:q.2.length<1000000):
 VC E0 83 1 [.ptr 0 0,.s (.int .u64 b),.s (.int .i64 ak)] [(0,FX q)] (RR (.c4 [.tk 1,.s (.int .i64 (dx q.1 b q.2 ak).2.2)]) 2 [(0,FX ((dx q.1 b q.2 ak).1,q.2)),(1,arV (dx q.1 b q.2 ak).2.1)]):=by
 refine VC.told (R:=fun r o c=>r= .c4 [.tk 4,.s (.int .i64 (dx q.1 b q.2 ak).2.2)]∧c=5∧o=[(4,arV (dx q.1 b q.2 ak).2.1),(0,yQ (dx q.1 b q.2 ak).1 1),(1,tB q.2)]) (VC.ld (m0:=0) rfl ?_) ?_
 ·show iU false (VC E0) _ _ [(1,tB q.2),(0,yQ q.1 1)] 2 _;refine⟨[],[some 0,some 1],_,_,_,_,Tq q.1 b q.2 ak gl pj,t3,?_⟩;rintro r o' c' ⟨rfl,rfl,rfl⟩;exact⟨rfl,rfl,rfl⟩
 ·rintro r o' c' ⟨rfl,rfl,rfl⟩;exact⟨[],[some 0,some 4],_,_,_,t3,rfl,rfl,rfl⟩
theorem IN (q:Acp) (b n:Int) (c:b8):
 VC E0 85 1 [.ptr 0 0,.s (.int .u64 b),.s (.int .i64 n),Kh c] [(0,FX q)] (RR (.s (.int .i64 (fA q.1 q.2 b n c).2.2)) 1 [(0,FX ((fA q.1 q.2 b n c).1,(fA q.1 q.2 b n c).2.1))]):=by
 refine VC.told (R:=fun r o c'=>r= .s (.int .i64 (fA q.1 q.2 b n c).2.2)∧c'=4∧o=[(0,yQ (fA q.1 q.2 b n c).1 1),(1,tB (fA q.1 q.2 b n c).2.1)]) (VC.ld (m0:=0) rfl ?_) ?_
 ·show iU false (VC E0) _ _ [(1,tB q.2),(0,yQ q.1 1)] 2 _;refine⟨[],[some 0,some 1],_,_,_,_,L3 q.1 q.2 b n c,t3,?_⟩;rintro r o' c' ⟨rfl,rfl,rfl⟩;exact⟨rfl,rfl,rfl⟩
 ·rintro r o' c' ⟨rfl,rfl,rfl⟩;exact⟨[],[some 0],_,_,_,t3,rfl,rfl,rfl⟩
theorem u5 (p:aB×Bool) (hp:PX p):VC E0 22 1 [.ptr 0 0] [(0,ie p)] (RR (.s (.int .i64 p.1.st)) 1 [(0,ie p)]):=by
 obtain⟨x,f⟩:=p;cases f with
 |false=>
  obtain⟨me,ms,rfl⟩:=hp rfl;refine en L0 Tryz.f22 ?_;exact⟨[],[some 0],_,_,_,t3,rfl,rfl,rfl⟩
 |true=>
  refine en L0 Tryz.f22 ?_;exact⟨[],[some 0],_,_,_,t3,rfl,rfl,rfl⟩
theorem y6 (p:aB×Bool) (hp:PX p):VC E0 25 1 [.ptr 0 0] [(0,ie p)] (RR (.s (.int .u64 p.1.b)) 1 [(0,ie p)]):=by
 obtain⟨x,f⟩:=p;cases f with
 |false=>
  obtain⟨me,ms,rfl⟩:=hp rfl;refine en L0 Tryz.f25 ?_;exact⟨[],[some 0],_,_,_,t3,rfl,rfl,rfl⟩
 |true=>
  refine en L0 Tryz.f25 ?_;exact⟨[],[some 0],_,_,_,t3,rfl,rfl,rfl⟩
theorem PT (p:aB×Bool) (hp:PX p):VC E0 26 1 [.ptr 0 0] [(0,ie p)] (RR (.s (.int .i64 p.1.ak)) 1 [(0,ie p)]):=by
 obtain⟨x,f⟩:=p;cases f with
 |false=>
  obtain⟨me,ms,rfl⟩:=hp rfl;refine en L0 Tryz.f26 ?_;exact⟨[],[some 0],_,_,_,t3,rfl,rfl,rfl⟩
 |true=>
  refine en L0 Tryz.f26 ?_;exact⟨[],[some 0],_,_,_,t3,rfl,rfl,rfl⟩
theorem gy (q:Acp):VC E0 53 1 [.ptr 0 0] [(0,FX q)] (RR (.s (.int .u64 q.1)) 1 [(0,FX q)]):=by
 refine en L0 Tryz.f53 ?_;exact⟨[],[some 0],_,_,_,t3,rfl,rfl,rfl⟩
structure CF where
 chain:Int
 aq:Int
 nodes:List Int
 fresh:Bool
 join:Int
def aJ (c:CF):List TV:=[.s (.int .i64 c.chain),.s (.int .u64 c.aq),.sl 1 (c.nodes.map aW) false,.s (.bool c.fresh),.s (.int .i64 c.join)]
theorem Me (l:List Int) (x:Int) (hl:l.length<1000000):VC E0 137 0 [.sl 1 (l.map aW) false,.s (.int .i64 x)] []
 (fun r o c=>∃i:Int,r= .s (.int .i64 i)∧(0≤i↔x∈l)∧c=0∧o=[]):=by
 refine en L0 Tryz.f137 ?_;refine⟨fun k f o c=>∃j:Nat,j≤l.length∧k=l.length - j∧x∉l.take j∧c=0∧f=[(0,.sl 1 (l.map aW) false),(1,.s (.int .i64 x)),(7,.s (.int .i64 l.length)),(8,.s (.int .i64 j))]∧o=[],⟨l.length,?_⟩,?_⟩
 ·refine⟨[],[],_,_,_,tx ?_,⟨0,Nat.zero_le _,rfl,by simp,rfl,rfl,rfl⟩⟩;exact Lz.int (by rw[List.length_map])
 ·rintro k f1 o1 c1 ⟨j,hj,rfl,hn,rfl,rfl,rfl⟩;refine wh ?_;refine sp ?_ ?_<;>intro h
  ·have h:j<l.length:=by have:(j:Int)<(l.length:Nat):=h
                         omega
   refine wh ?_;refine jg h ?_;refine wh ?_;refine sp ?_ ?_<;>intro he
   ·have he:x=l[j]:=he;refine wh ?_;exact⟨[],[],_,_,_,t3,_,rfl,⟨fun _=>he▸List.getElem_mem h,fun _=>Int.natCast_nonneg j⟩,rfl,rfl⟩
   ·have he:¬x=l[j]:=he;refine wh ?_;refine⟨l.length - (j+1),?_,om⟩;exact⟨[],[],_,_,_,t3,⟨j+1,h,rfl,(by rw[List.take_succ_eq_append_getElem h];simp only[List.mem_append,List.mem_singleton,not_or];exact⟨hn,he⟩),rfl,rfl,rfl⟩⟩
  ·have PD:j=l.length:=by have:¬(j:Int)<(l.length:Nat):=h
                          omega
   subst PD;rw[List.take_length]at hn;refine wh ?_;exact⟨[],[],_,_,_,t3,_,rfl,⟨fun h=>absurd h (by decide),fun h=>absurd h hn⟩,rfl,rfl⟩
theorem iH (l:List Int) (x:Int) (hl:l.length<1000000):VC E0 99 0 [.sl 1 (l.map aW) false,.s (.int .i64 x)] [] (RR (.s (.bool (decide (x∈l)))) 0 []):=by
 refine en L0 Tryz.f99 ?_;refine⟨[],[],_,_,_,_,Me l x hl,t3,?_⟩;rintro r o' c' ⟨i,rfl,hi,rfl,rfl⟩;refine wh ?_;refine sp ?_ ?_<;>intro xF
 ·have xF:i≥0:=xF;refine wh ?_;refine⟨[],[],_,_,_,tx ?_,rfl,rfl,rfl⟩;exact Lz.of (an (Eq.symm (decide_eq_true (hi.1 xF))))
 ·have xF:¬i≥0:=xF;refine wh ?_;refine⟨[],[],_,_,_,tx ?_,rfl,rfl,rfl⟩;exact Lz.of (an (Eq.symm (decide_eq_false (mt hi.2 xF))))
theorem ig (l:List Int) (hl:l.length<1000000):VC E0 98 0 [.sl 1 (l.map aW) false] [] (RR (.tk 0) 1 [(0,.arr 1 true (l.map aW))]):=by
 refine en L0 Tryz.f98 ?_;refine⟨fun h=>?_,?_⟩
 ·have h:l=[]:=by simpa using h
  subst h;refine wh ?_;exact⟨[],[none],_,_,_,t3,rfl,rfl,rfl⟩
 ·refine wh ?_;refine⟨by simp;omega,?_⟩;refine wh ?_;exact⟨[],[some 1],_,_,_,t3,rfl,rfl,rfl⟩
def Vd (n:Int):Bool:=decide (1≤n∧n≤24)
theorem TB (n:Int):VC E0 101 0 [.s (.int .i64 n)] [] (RR (.s (.bool (Vd n))) 0 []):=by
 refine en L0 Tryz.f101 ?_;refine sp ?_ ?_<;>intro h1
 ·have h1:n≥1:=h1;refine wh ?_;refine sp ?_ ?_<;>intro h2
  ·have h2:n≤24:=h2;refine wh ?_;refine⟨[],[],_,_,_,tx ?_,rfl,rfl,rfl⟩;exact Lz.of (an (Eq.symm (decide_eq_true ⟨h1,h2⟩)))
  ·have h2:¬n≤24:=h2;refine wh ?_;refine⟨[],[],_,_,_,tx ?_,rfl,rfl,rfl⟩;exact Lz.of (an (Eq.symm (decide_eq_false fun h=>h2 h.2)))
 ·have h1:¬n≥1:=h1;refine wh ?_;refine⟨[],[],_,_,_,tx ?_,rfl,rfl,rfl⟩;exact Lz.of (an (Eq.symm (decide_eq_false fun h=>h1 h.1)))
def fL (l:List Int):Prop:=l.Nodup∧∀n∈l,1≤n∧n≤24
instance (l:List Int):Decidable (fL l):=inferInstanceAs (Decidable (_∧_))
theorem F5 (l:List Int) (n:Int):fL (l++[n])↔fL l∧(1≤n∧n≤24)∧n∉l:=by
 unfold fL;rw[List.nodup_append];constructor
 ·rintro⟨⟨h1,_,h2⟩,h3⟩;exact⟨⟨h1,fun m hm=>h3 m (List.mem_append_left _ hm)⟩,h3 n (by simp),fun hm=>h2 n hm n (by simp) rfl⟩
 ·rintro⟨⟨h1,h2⟩,h3,h4⟩;refine⟨⟨h1,by simp,fun a ha b hb=>?_⟩,fun m hm=>?_⟩
  ·simp at hb;subst hb;rintro rfl;exact h4 ha
  ·rcases List.mem_append.1 hm with q|q
   ·exact h2 m q
   ·simp at q;subst q;exact h3
theorem vT {l:List Int} {i:Nat} (h:fL l):fL (l.take i):=⟨(List.take_sublist i l).nodup h.1,fun n hn=>h.2 n (List.mem_of_mem_take hn)⟩
theorem Dt (l:List Int) (hl:l.length<1000000):VC E0 56 0 [.sl 1 (l.map aW) false] [] (RR (.s (.bool (decide (fL l)))) 0 []):=by
 refine en L0 Tryz.f56 ?_;refine⟨fun k f o c=>∃j:Nat,j≤l.length∧k=l.length - j∧fL (l.take j)∧c=0∧f=[(0,.sl 1 (l.map aW) false),(5,.sl 1 (l.map aW) false),(6,.s (.int .i64 l.length)),(7,.s (.int .i64 j))]∧o=[],⟨l.length,?_⟩,?_⟩
 ·refine⟨[],[],_,_,_,tx ?_,⟨0,Nat.zero_le _,rfl,⟨by simp,by simp⟩,rfl,rfl,rfl⟩⟩;exact Lz.int (by rw[List.length_map])
 ·rintro k f1 o1 c1 ⟨j,hj,rfl,hn,rfl,rfl,rfl⟩;refine wh ?_;refine sp ?_ ?_<;>intro h
  ·have h:j<l.length:=by have:(j:Int)<(l.length:Nat):=h
                         omega
   refine wh ?_;refine jg h ?_;refine wh ?_;have hs:=F5 (l.take j) l[j];rw[←List.take_succ_eq_append_getElem h]at hs;refine⟨[],[],_,_,_,_,TB l[j],t3,?_⟩;rintro r o' c' ⟨rfl,rfl,rfl⟩;have bj:=True.intro;clear bj;cases hb:Vd l[j]
   ·have hb:¬(1≤l[j]∧l[j]≤24):=of_decide_eq_false hb;refine wh ?_;refine⟨[],[],_,_,_,tx ?_,rfl,rfl,rfl⟩;exact Lz.of (an (Eq.symm (decide_eq_false fun q=>hb (hs.1 (vT q)).2.1)))
   ·have hb:1≤l[j]∧l[j]≤24:=of_decide_eq_true hb;refine wh ?_;refine⟨⟨om,om,by simp;omega⟩,?_⟩;refine wh ?_;refine⟨[],[],_,_,_,_,iH (l.take j) l[j] (by simp;omega),⟨by((repeat' first|exact LF|constructor);all_goals(exact Lz.of (by simp[List.map_take]))),by((repeat' first|exact LF|constructor);all_goals(exact Lz.of (by simp[List.map_take]))),by rfl⟩,?_⟩;rintro r o' c' ⟨rfl,rfl,rfl⟩;refine wh ?_;by_cases hm:l[j]∈l.take j
    ·rw[decide_eq_true hm];refine wh ?_;refine⟨[],[],_,_,_,tx ?_,rfl,rfl,rfl⟩;exact Lz.of (an (Eq.symm (decide_eq_false fun q=>(hs.1 (vT q)).2.2 hm)))
    ·rw[decide_eq_false hm];refine wh ?_;refine⟨l.length - (j+1),?_,om⟩;exact⟨[],[],_,_,_,t3,⟨j+1,h,rfl,hs.2 ⟨hn,hb,hm⟩,rfl,rfl,rfl⟩⟩
  ·have PD:j=l.length:=by have:¬(j:Int)<(l.length:Nat):=h
                          omega
   subst PD;rw[List.take_length]at hn;refine wh ?_;refine⟨[],[],_,_,_,tx ?_,rfl,rfl,rfl⟩;exact Lz.of (an (Eq.symm (decide_eq_true hn)))
def aG (c:CF):List Int:=c.nodes++(if c.join=0 then []else [c.join])
theorem fi (c:CF):(aG c).length≤c.nodes.length+1:=by unfold aG;split<;>simp
theorem lu (c:CF) (hl:c.nodes.length<100000):VC E0 55 0 [.agg (aJ c)] [] (RR (.tk 0) 1 [(0,.arr 1 true ((aG c).map aW))]):=by
 refine en L0 Tryz.f55 ?_;refine sp ?_ ?_<;>intro hj
 ·have hj:c.join=0:=hj;refine wh ?_;refine⟨[],[],_,_,_,_,ig c.nodes om,t3,cw ?_⟩;refine⟨[],[some 1],_,_,_,tx ?_,rfl,rfl,rfl⟩;exact Lz.of (by unfold aG;simp[hj])
 ·have hj:¬c.join=0:=hj;refine wh ?_;refine⟨[],[],_,_,_,_,ig c.nodes om,t3,cw ?_⟩;refine⟨by simp;omega,?_⟩;refine wh ?_;refine⟨[],[some 3],_,_,_,tx ?_,rfl,rfl,rfl⟩;exact Lz.of (by unfold aG;simp[hj])
def jh (c:CF):Prop:=(0≤c.chain∧c.chain<4)∧1≤c.aq∧(1≤c.nodes.length∧c.nodes.length≤5)∧(c.fresh=true→2≤c.nodes.length∧c.join=0)∧fL (aG c)
instance (c:CF):Decidable (jh c):=inferInstanceAs (Decidable (_∧_))
theorem PU (c:CF):VC E0 54 0 [.agg (aJ c)] [] (RR (.s (.bool (decide (jh c)))) 0 []):=by
 have KY:=fi c;refine en L0 Tryz.f54 ?_;refine sp ?_ ?_<;>intro h1
 ·have h1:c.chain<0:=h1;refine wh ?_;refine⟨[],[],_,_,_,tx ?_,rfl,rfl,rfl⟩;exact Lz.of (an (Eq.symm (decide_eq_false fun q=>by obtain⟨⟨_,_⟩,_,⟨_,_⟩,_,_⟩:=q;omega)))
 have h1:¬c.chain<0:=h1;refine wh ?_;refine sp ?_ ?_<;>intro h2
 ·have h2:c.chain≥4:=h2;refine wh ?_;refine⟨[],[],_,_,_,tx ?_,rfl,rfl,rfl⟩;exact Lz.of (an (Eq.symm (decide_eq_false fun q=>by obtain⟨⟨_,_⟩,_,⟨_,_⟩,_,_⟩:=q;omega)))
 have h2:¬c.chain≥4:=h2;refine wh ?_;refine sp ?_ ?_<;>intro h3
 ·have h3:c.aq<1:=h3;refine wh ?_;refine⟨[],[],_,_,_,tx ?_,rfl,rfl,rfl⟩;exact Lz.of (an (Eq.symm (decide_eq_false fun q=>by obtain⟨⟨_,_⟩,_,⟨_,_⟩,_,_⟩:=q;omega)))
 have h3:¬c.aq<1:=h3;refine wh ?_;refine sp ?_ ?_<;>intro h4
 ·have h4:(((c.nodes.map aW).length:Nat):Int)<1:=h4;rw[List.length_map]at h4;refine wh ?_;refine⟨[],[],_,_,_,tx ?_,rfl,rfl,rfl⟩;exact Lz.of (an (Eq.symm (decide_eq_false fun q=>by obtain⟨⟨_,_⟩,_,⟨_,_⟩,_,_⟩:=q;omega)))
 have h4:¬(((c.nodes.map aW).length:Nat):Int)<1:=h4;rw[List.length_map]at h4;refine wh ?_;refine sp ?_ ?_<;>intro h5
 ·have h5:(((c.nodes.map aW).length:Nat):Int)>5:=h5;rw[List.length_map]at h5;refine wh ?_;refine⟨[],[],_,_,_,tx ?_,rfl,rfl,rfl⟩;exact Lz.of (an (Eq.symm (decide_eq_false fun q=>by obtain⟨⟨_,_⟩,_,⟨_,_⟩,_,_⟩:=q;omega)))
 have h5:¬(((c.nodes.map aW).length:Nat):Int)>5:=h5;rw[List.length_map]at h5;refine wh ?_;cases hf:c.fresh
 ·refine wh ?_;refine⟨[],[],_,_,_,_,lu c om,⟨by((repeat' first|exact LF|constructor);all_goals(exact Lz.of (an hf.symm))),by((repeat' first|exact LF|constructor);all_goals(exact Lz.of (an hf.symm))),by rfl⟩,?_⟩;rintro r o' c' ⟨rfl,rfl,rfl⟩;refine wh ?_;refine⟨[1],[],_,_,_,_,Dt (aG c) om,t3,cw ?_⟩;refine⟨[],[],_,_,_,tx ?_,rfl,rfl,rfl⟩;exact Lz.of (an (decide_eq_decide.2 ⟨fun q=>⟨⟨om,om⟩,om,⟨om,om⟩,(fun e=>absurd (hf.symm.trans e) (by decide)),q⟩,fun q=>q.2.2.2.2⟩))
 ·refine wh ?_;refine sp ?_ ?_<;>intro h6
  ·have h6:(((c.nodes.map aW).length:Nat):Int)<2:=h6;rw[List.length_map]at h6;refine wh ?_;refine⟨[],[],_,_,_,tx ?_,rfl,rfl,rfl⟩;exact Lz.of (an (Eq.symm (decide_eq_false fun q=>by have:=q.2.2.2.1 hf;omega)))
  have h6:¬(((c.nodes.map aW).length:Nat):Int)<2:=h6;rw[List.length_map]at h6;refine wh ?_;refine sp ?_ ?_<;>intro h7
  ·have h7:c.join≠0:=h7;refine wh ?_;refine⟨[],[],_,_,_,tx ?_,rfl,rfl,rfl⟩;exact Lz.of (an (Eq.symm (decide_eq_false fun q=>by have:=q.2.2.2.1 hf;omega)))
  have h7:c.join=0:=Classical.not_not.1 h7;refine wh ?_;refine⟨[],[],_,_,_,_,lu c om,⟨by((repeat' first|exact LF|constructor);all_goals(exact Lz.of (an hf.symm))),by((repeat' first|exact LF|constructor);all_goals(exact Lz.of (an hf.symm))),by rfl⟩,?_⟩;rintro r o' c' ⟨rfl,rfl,rfl⟩;refine wh ?_;refine⟨[1],[],_,_,_,_,Dt (aG c) om,t3,cw ?_⟩;refine⟨[],[],_,_,_,tx ?_,rfl,rfl,rfl⟩;exact Lz.of (an (decide_eq_decide.2 ⟨fun q=>⟨⟨om,om⟩,om,⟨om,om⟩,(fun e=>⟨om,h7⟩),q⟩,fun q=>q.2.2.2.2⟩))
def gz (l:List CF):List Int:=l.flatMap aG
theorem Mf (l:List CF) (j:Nat) (h:j<l.length):gz (l.take (j+1))=gz (l.take j)++aG l[j]:=by
 unfold gz;rw[List.take_succ_eq_append_getElem h,List.flatMap_append];simp
def y7 (l:List CF):Prop:=∀(i:Nat) (h:i<l.length),l[i].chain=(i:Int)∧jh l[i]
def kA (l:List CF):Prop:=(1≤l.length∧l.length≤4)∧y7 l∧fL (gz l)
theorem IP {l:List CF} {j:Nat} (h:j<l.length) (hj:y7 (l.take j)) (h1:l[j].chain=(j:Int)) (h2:jh l[j]):y7 (l.take (j+1)):=by
 intro i hi;have AA:i<j+1:=by rw[List.length_take]at hi;omega
 rw[List.getElem_take];by_cases e:i=j
 ·subst e;exact⟨h1,h2⟩
 ·have:=hj i (by rw[List.length_take];omega)
  rwa [List.getElem_take]at this
theorem F6 {l:List CF} (h:y7 l):(gz l).length≤6*l.length:=by
 unfold gz;have:∀l:List CF,(∀c∈l,jh c)→(l.flatMap aG).length≤6*l.length:=by
  intro l
  induction l with
  |nil=>simp
  |cons c l ih=>
   intro h;have h1:=ih fun c hc=>h c (List.mem_cons_of_mem _ hc);have h2:=fi c;have h3:=(h c List.mem_cons_self).2.2.1;rw[List.flatMap_cons,List.length_append,List.length_cons];omega
 refine this l fun c hc=>?_;obtain⟨i,hi,rfl⟩:=List.mem_iff_getElem.1 hc;exact(h i hi).2
open Classical in
open Classical in
theorem Kl (l:List CF):VC E0 29 0 [.sl 5 (l.map aJ) false] [] (RR (.s (.bool (decide (kA l)))) 0 []):=by
 refine en L0 Tryz.f29 ?_;refine sp ?_ ?_<;>intro h1
 ·have h1:(((l.map aJ).length:Nat):Int)<1:=h1;rw[List.length_map]at h1;refine wh ?_;refine⟨[],[],_,_,_,tx ?_,rfl,rfl,rfl⟩;exact Lz.of (an (Eq.symm (decide_eq_false fun q=>by have:=q.1.1;omega)))
 have h1:¬(((l.map aJ).length:Nat):Int)<1:=h1;rw[List.length_map]at h1;refine wh ?_;refine sp ?_ ?_<;>intro h2
 ·have h2:(((l.map aJ).length:Nat):Int)>4:=h2;rw[List.length_map]at h2;refine wh ?_;refine⟨[],[],_,_,_,tx ?_,rfl,rfl,rfl⟩;exact Lz.of (an (Eq.symm (decide_eq_false fun q=>by have:=q.1.2;omega)))
 have h2:¬(((l.map aJ).length:Nat):Int)>4:=h2;rw[List.length_map]at h2;refine wh ?_;refine⟨fun k f o c=>∃j:Nat,j≤l.length∧k=l.length - j∧y7 (l.take j)∧c=1∧f=[(0,.sl 5 (l.map aJ) false),(3,.tk 0),(14,.sl 5 (l.map aJ) false),(15,.s (.int .i64 l.length)),(16,.s (.int .i64 j))]∧o=[(0,.arr 1 true ((gz (l.take j)).map aW))],⟨l.length,?_⟩,?_⟩
 ·refine⟨[],[none],?_⟩
  iterate 3 constructor
  refine⟨⟨?_,?_,?_⟩,⟨0,Nat.zero_le _,rfl,(fun i hi=>absurd hi (by simp)),rfl,rfl,rfl⟩⟩
  all_goals(repeat' first|exact LF|constructor)
  all_goals first|exact Lz.int (by rw[List.length_map])|exact Lz.of (by simp[gz])
 ·rintro k f1 o1 c1 ⟨j,hj,rfl,hn,rfl,rfl,rfl⟩;refine wh ?_;refine sp ?_ ?_<;>intro h
  ·have h:j<l.length:=by have:(j:Int)<(l.length:Nat):=h
                         omega
   refine wh ?_;refine jg h ?_;refine wh ?_;refine sp ?_ ?_<;>intro hc
   ·have hc:l[j].chain≠(j:Int):=hc;refine wh ?_;refine⟨[],[],_,_,_,tx ?_,rfl,rfl,rfl⟩;exact Lz.of (an (Eq.symm (decide_eq_false fun q=>hc (q.2.1 j h).1)))
   ·have hc:l[j].chain=(j:Int):=Classical.not_not.1 hc;refine wh ?_;refine⟨[],[],_,_,_,_,PU l[j],t3,cw ?_⟩;by_cases hr:jh l[j]
    ·rw[decide_eq_true hr];refine wh ?_;refine⟨[],[],_,_,_,_,lu l[j] (by have:=hr.2.2.1;omega),t3,cw ?_⟩;have KY:=fi l[j];have eF:=F6 hn;have h5:=hr.2.2.1;have htl:(l.take j).length≤4:=by rw[List.length_take];omega
     refine⟨by simp;omega,?_⟩;refine wh ?_;refine⟨l.length - (j+1),?_,om⟩;refine⟨[],[some 3],_,_,_,tx ?_,⟨j+1,h,rfl,IP h hn hc hr,rfl,rfl,rfl⟩⟩;exact Lz.of (by rw[Mf l j h,List.map_append])
    ·rw[decide_eq_false hr];refine wh ?_;refine⟨[],[],_,_,_,tx ?_,rfl,rfl,rfl⟩;exact Lz.of (an (Eq.symm (decide_eq_false fun q=>hr (q.2.1 j h).2)))
  ·have PD:j=l.length:=by have:¬(j:Int)<(l.length:Nat):=h
                          omega
   subst PD;rw[List.take_length]at hn;rw[List.take_length];refine wh ?_;refine⟨[0],[],_,_,_,_,Dt (gz l) (by have:=F6 hn;omega),t3,cw ?_⟩;refine⟨[],[],_,_,_,tx ?_,rfl,rfl,rfl⟩;exact Lz.of (an (decide_eq_decide.2 ⟨fun q=>⟨⟨om,om⟩,hn,q⟩,fun q=>q.2.2⟩))
end Go.M
namespace Go.M
open Go Go.Proofs
set_option maxRecDepth 100000
set_option maxHeartbeats 2000000
def b5 (l:List Int) (n:Int):List Int:=l.filter fun x=>decide (x≠n)
theorem qZ (l:List Int) (n:Int) (j:Nat) (h:j<l.length):b5 (l.take (j+1)) n=b5 (l.take j) n++(if l[j]=n then []else [l[j]]):=by
 unfold b5;rw[List.take_succ_eq_append_getElem h,List.filter_append];by_cases e:l[j]=n<;>simp[e]
theorem Du (l:List Int) (n:Int):(b5 l n).length≤l.length:=List.length_filter_le _ _
def eB (c:CF):List Int:=if c.fresh=true then c.nodes.take (c.nodes.length - 1)else c.nodes
def ij (c:CF):Int:=c.nodes.getLast?.getD 0
def tJ (x:CF):Int:=if x.aq=18446744073709551615 then 9 else 0
def PV (l:List CF) (x:CF) (c:b8):Int:=
 if c.kind=1 then(if c.node∉aG x then 7 else if(b5 (eB x) c.node).length=0 then 12 else tJ x)
 else if c.kind=2 then(if c.node∈gz l then 8 else if x.join≠0∨x.fresh=true then 12 else if x.nodes.length=5 then 9 else tJ x)
 else if c.kind=3 then(if x.join≠c.node then 7 else if x.nodes.length=5 then 9 else tJ x)
 else(if x.fresh=false∨ij x≠c.node then 7 else tJ x)
theorem Ve {l:List Int} {K:List TV→Prop} (h:1≤l.length∧l.length≤5) (hK:K (aW (l.getLast?.getD 0))):∃e,(0≤IntKind.i64.wrap ((((l.map aW).length:Nat):Int) - 1)∧(l.map aW)[(IntKind.i64.wrap ((((l.map aW).length:Nat):Int) - 1)).toNat]? =some e)∧K e:=by
 have hw:IntKind.i64.wrap ((((l.map aW).length:Nat):Int) - 1)=((l.length - 1:Nat):Int):=by
  rw[List.length_map,IntWalk.i64_in _ om];omega
 rw[hw];refine⟨_,⟨om,?_⟩,hK⟩;rw[Int.toNat_natCast,List.getElem?_map,←List.getLast?_eq_getElem?];cases hq:l.getLast? with
 |none=>rw[List.getLast?_eq_none_iff]at hq;subst hq;exact absurd h.1 (by decide)
 |some a=>rfl
open Classical in
noncomputable def iI (l:List CF) (c:b8):Int:=
 if¬kA l then 1 else if c.check≠0 then c.check else if c.kind=0 then 0 else
 match l[c.chain.toNat]? with
 |none=>7
 |some x=>if x.aq≠c.aq then 10 else PV l x c
theorem np {c:b8} (h:c.check=0) (hk:c.kind≠0):0≤c.chain∧c.chain<4∧1≤c.aq∧(0≤c.kind∧c.kind<5)∧1≤c.node∧c.node≤24:=by
 unfold b8.check yU at h
 repeat' split at h
 all_goals first|omega |(exact absurd h (by decide))|(exfalso;omega)
theorem kB {l:List CF} (h:kA l) {c:CF} (hc:c∈l):jh c:=by
 obtain⟨i,hi,rfl⟩:=List.mem_iff_getElem.1 hc;exact(h.2.1 i hi).2
theorem TC (c:CF) (h5:1≤c.nodes.length∧c.nodes.length≤5):VC E0 217 0 [.agg (aJ c)] [] (RR (.s (.int .i64 (ij c))) 0 []):=by
 refine en L0 Tryz.f217 ?_;refine Ve h5 ?_;refine wh ?_;exact⟨[],[],_,_,_,t3,rfl,rfl,rfl⟩
theorem IQ (c:CF) (h5:1≤c.nodes.length∧c.nodes.length≤5):VC E0 215 0 [.agg (aJ c)] [] (RR (.tk 0) 1 [(0,.arr 1 true ((eB c).map aW))]):=by
 refine en L0 Tryz.f215 ?_;cases hf:c.fresh
 ·refine wh ?_;refine⟨[],[],_,_,_,_,ig c.nodes om,t3,cw ?_⟩;refine⟨[],[some 1],_,_,_,tx ?_,rfl,rfl,rfl⟩;exact Lz.of (by unfold eB;rw[hf];simp)
 ·refine wh ?_;have hw:IntKind.i64.wrap ((((c.nodes.map aW).length:Nat):Int) - 1)=((c.nodes.length - 1:Nat):Int):=by
   rw[List.length_map,IntWalk.i64_in _ om];omega
  refine⟨by rw[hw,List.length_map];omega,?_⟩;refine wh ?_;refine⟨[],[],_,_,_,_,ig (c.nodes.take (c.nodes.length - 1)) (by rw[List.length_take];omega),⟨by((repeat' first|exact LF|constructor);all_goals(exact Lz.of (by rw[hw];simp[List.map_take]))),by((repeat' first|exact LF|constructor);all_goals(exact Lz.of (by rw[hw];simp[List.map_take]))),by rfl⟩,?_⟩;rintro r o' c' ⟨rfl,rfl,rfl⟩;refine wh ?_;refine⟨[],[some 1],_,_,_,tx ?_,rfl,rfl,rfl⟩;exact Lz.of (by unfold eB;rw[hf];simp)
end Go.M
